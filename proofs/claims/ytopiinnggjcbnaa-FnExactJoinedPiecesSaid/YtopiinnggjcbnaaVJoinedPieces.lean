/- FnExactJoinedPieces: each function does what its plain function says (links by the kernel). -/
import Derived.Test.YtopiinnggjcbnaaViD
import Derived.Test.YtopiinnggjcbnaaPJoinedPieces
import Derived.Test.YtopiinnggjcbnaaProg
import Derived.KernelRfl
import Derived.Shelf.Strings.OnBuilder
set_option linter.unusedVariables false
namespace Go.Vi
open Go Go.RowKit
/-- strings.Join, as a contract of ours -/
def joinC : XC := ⟨[.dat (.sl .str), .dat .str], [.dat .str], fun x => decide (x.1.length ≤ 140737488355328 ∧ (Lib.join x.1 x.2.1).length ≤ 140737488355328), fun x => ((Lib.join x.1 x.2.1, ()), ((), (), ()))⟩
/-- what lies below is kept -/
theorem inv_below {w0 : World} {O : Nat → Prop} {F : Nat → Option Pl} {S : Nat → Prop} {w w' : World} (hI : Inv w0 O F S w []) (hb : Below w.heap.size w w') : Inv w0 O F S w' [] ∧ Keep F S w F S w' := by
  have hd : ∀ b, F b = none := fun b => hI.dom b (Nat.zero_le _)
  refine ⟨⟨⟨hb.os.trans hI.ext.os, hb.tape.trans hI.ext.tape, hb.output.trans hI.ext.output, Nat.le_trans hI.ext.size hb.size, fun g hg ho => (hb.block g (Nat.lt_of_lt_of_le hg hI.ext.size)).trans (hI.ext.block g hg ho)⟩, hI.dom, fun b x p hm _ => by simp at hm, fun b b' x x' p p' hm => by simp at hm, fun b x p hm => by simp at hm, fun g hg => Nat.lt_of_lt_of_le (hI.sb g hg) hb.size, hI.so, fun b x hm => by simp at hm⟩,
    ⟨fun b p h => h, fun g h => h, fun g h => hb.block g (hI.sb g h)⟩⟩
theorem join_xok {P : Program} {g : FuncId} (hent : ∀ (args : Array Value) (w : World), (callFunc g args).run P w = .ok (.enter g args) w)
    (hnone : ∀ (a : Option Addr) (c : Nat) (sep : ByteArray) (w : World), Calls P g #[.slice a 0 c, .string sep] w fun e w' => e = .returned (.string ⟨#[]⟩) ∧ w' = w)
    (hJ : ∀ (bk o c : Nat) (xs : List ByteArray) (sep : ByteArray) (w : World), (∀ (j : Nat) (x : ByteArray), xs[j]? = some x → w.cell? ⟨bk, o + j, none⟩ = some (.string x)) → bk < w.heap.size → xs.length ≤ 140737488355328 → xs.length ≤ c →
      (Lib.join (xs.map (·.data.toList)) sep.data.toList).length ≤ 140737488355328 → Calls P g #[.slice (some ⟨bk, o, none⟩) xs.length c, .string sep] w fun e w' => e = .returned (.string ⟨(Lib.join (xs.map (·.data.toList)) sep.data.toList).toArray⟩) ∧ Below w.heap.size w w') : XOk P g joinC := by
  intro w0 O F S w us x hI hv hp
  obtain ⟨xs, sep, _⟩ := x
  obtain ⟨u1, us1, rfl, h1, hv⟩ := hv.head
  obtain ⟨u2, us2, rfl, h2, hv⟩ := hv.head
  obtain rfl := hv.nil_inv
  have hp : xs.length ≤ 140737488355328 ∧ (Lib.join xs sep).length ≤ 140737488355328 := of_decide_eq_true hp
  cases h1 with | d h1 => ?_
  cases h2 with | d h2 => ?_
  obtain ⟨a, cap, rfl, hcap, hor⟩ := h1
  obtain rfl := h2
  have hI : Inv w0 O F S w [] := hI
  have fin : ∀ (e : Ending) (w' : World), e = .returned (.string ⟨(Lib.join xs sep).toArray⟩) ∧ Below w.heap.size w w' → (match e with | .returned u => ∃ F' S', VRep F' S' w' (joinC.resB (joinC.f (xs, sep, ()))) u ∧ Inv w0 O F' S' w' (joinC.memB (joinC.f (xs, sep, ()))) ∧ Keep F S w F' S' w' | _ => False) := by
    rintro e w' ⟨rfl, hb⟩
    obtain ⟨i, k⟩ := inv_below hI hb
    exact ⟨F, S, .d (t := .str) (x := Lib.join xs sep) rfl, i, k⟩
  refine .inl ⟨hent _ _, ?_⟩
  rcases hor with h0 | ⟨b, o, rfl, hS, hc⟩
  · subst h0
    exact (hnone a cap ⟨sep.toArray⟩ w).mono fun e w' ⟨he, hw⟩ => fin e w' ⟨he, hw ▸ Below.refl _ _⟩
  · have hj := hJ b o cap (xs.map fun s => ⟨s.toArray⟩) ⟨sep.toArray⟩ w (fun j y hy => by
        rw [List.getElem?_map] at hy
        cases hx : xs[j]? with
        | none => rw [hx] at hy; cases hy
        | some s =>
          rw [hx] at hy
          obtain rfl := Option.some.inj hy
          obtain ⟨ec, hec, hcell⟩ := hc j s hx
          have hec : ec = [.string ⟨s.toArray⟩] := hec
          subst hec
          have := hcell 0 _ rfl
          rwa [show o + j * Ty.sz .str + 0 = o + j by show o + j * 1 + 0 = o + j; omega] at this) (hI.sb b hS) (by rw [List.length_map]; exact hp.1) (by rw [List.length_map]; exact hcap)
    rw [List.map_map, List.length_map] at hj
    have hid : ((fun x : ByteArray => x.data.toList) ∘ fun s : List UInt8 => (⟨s.toArray⟩ : ByteArray)) = id := by funext s; simp
    rw [hid, List.map_id] at hj
    exact (hj hp.2).mono fun e w' he => fin e w' he
end Go.Vi
namespace Go.Proofs
open Go.Shelf
def Try.lays156_ren : Go.Shelf.Ren := ⟨fun | 156 => 52 | 165 => 77 | 166 => 78 | 169 => 79 | 240 => 99 | 241 => 100 | 276 => 105 | 277 => 106 | n => n, fun | 31 => 28 | 9 => 9 | 3 => 3 | 4 => 4 | 0 => 0 | 20 => 20 | 72 => 109 | 76 => 113 | 70 => 107 | 37 => 84 | 75 => 112 | 127 => 134 | 164 => 142 | 5 => 5 | 80 => 115 | n => n, fun | n => n⟩
theorem Try.lays156 : Go.Proofs.Lays.n156 Try.prog Try.lays156_ren := {
  mixed := by kernel_rfl,
  f156 := Try.func52.trans (congrArg some (by kernel_rfl)),
  f165 := Try.func77.trans (congrArg some (by kernel_rfl)),
  f166 := Try.func78.trans (congrArg some (by kernel_rfl)),
  f169 := Try.func79.trans (congrArg some (by kernel_rfl)),
  f240 := Try.func99.trans (congrArg some (by kernel_rfl)),
  f241 := Try.func100.trans (congrArg some (by kernel_rfl)),
  f276 := Try.func105.trans (congrArg some (by kernel_rfl)),
  f277 := Try.func106.trans (congrArg some (by kernel_rfl)),
  t0 := Try.underlying0,
  a0 := Try.isAgg0,
  z0 := Try.sizeOf0,
  v0 := Try.zeroValue0,
  t3 := Try.underlying3,
  a3 := Try.isAgg3,
  z3 := Try.sizeOf3,
  v3 := Try.zeroValue3,
  t4 := Try.underlying4,
  a4 := Try.isAgg4,
  z4 := Try.sizeOf4,
  v4 := Try.zeroValue4,
  t9 := Try.underlying9,
  a9 := Try.isAgg9,
  z9 := Try.sizeOf9,
  v9 := Try.zeroValue9,
  t20 := Try.underlying20,
  a20 := Try.isAgg20,
  z20 := Try.sizeOf20,
  v20 := Try.zeroValue20,
  t31 := Try.underlying28,
  a31 := Try.isAgg28,
  z31 := Try.sizeOf28,
  v31 := Try.zeroValue28,
  t37 := Try.underlying84,
  a37 := Try.isAgg84,
  z37 := Try.sizeOf84,
  v37 := Try.zeroValue84,
  t70 := Try.underlying107,
  a70 := Try.isAgg107,
  z70 := Try.sizeOf107,
  v70 := Try.zeroValue107,
  t72 := Try.underlying109,
  a72 := Try.isAgg109,
  z72 := Try.sizeOf109,
  v72 := Try.zeroValue109,
  t75 := Try.underlying112,
  a75 := Try.isAgg112,
  z75 := Try.sizeOf112,
  v75 := Try.zeroValue112,
  t76 := Try.underlying113,
  a76 := Try.isAgg113,
  z76 := Try.sizeOf113,
  v76 := Try.zeroValue113,
  t127 := Try.underlying134,
  a127 := Try.isAgg134,
  z127 := Try.sizeOf134,
  v127 := Try.zeroValue134,
  t164 := Try.underlying142,
  a164 := Try.isAgg142,
  z164 := Try.sizeOf142,
  v164 := Try.zeroValue142 }
theorem Try.extra156 : Go.Proofs.Builder.Extra Try.prog Try.lays156_ren := {
  sizeBuilder := by kernel_rfl,
  liesBuilder := by kernel_rfl,
  t5 := Try.underlying5,
  a5 := Try.isAgg5,
  z5 := Try.sizeOf5,
  v5 := Try.zeroValue5,
  infoByte := by kernel_rfl,
  cellsByte := by kernel_rfl,
  sizeByte := by kernel_rfl,
  neB5 := by decide }
end Go.Proofs
namespace Go.Proofs.Ytopiinnggjcbnaa.VJoinedPieces
open Go Go.Vi Go.Vp
abbrev J : V := .junk
def tab : List (TypeId × TI) := [(3, ⟨1, 8, .int .i64, some (.int .i64)⟩), (5, ⟨1, 1, .int .u8, some (.int .u8)⟩), (9, ⟨1, 16, .str, some .str⟩), (28, ⟨1, 24, .sl 9, some (.sl .str)⟩), (84, ⟨1, 24, .sl 5, some (.sl (.int .u8))⟩)]
theorem tabB : (tab.all fun x => tiB Try.prog (lookT tab) x.1) = true := by kernel_rfl
theorem tok : TOK Try.prog (lookT tab) := tok_of tabB
theorem mixed : Try.prog.follows .mixedOrders = true := by kernel_rfl
def tb0 : List (FuncId × XC) := []
theorem all0 : AllOk Try.prog tb0 := allOk_nil
def c0_y (y : Bool) : AsD [.dat .bool] × AsY [.dat (.sl .str), .dat (.sl .str)] := ((y, ()), ((), (), ()))
def c0 : XC := ⟨[.dat (.sl .str), .dat (.sl .str)], [.dat .bool], fun x => laws_eqStringS_pre x.1 x.2.1, fun x => c0_y (laws_eqStringS_f x.1 x.2.1)⟩
def laws_eqStringS_enc (y : Bool) : Option R0 := some (c0.resB (c0_y y), c0.memB (c0_y y))
def laws_eqStringS_J : Hds := [(0, ([2, 3, 4, 6, 7, 8, 9, 10, 11, 12, 13, 14, 15, 16, 17, 18, 19, 20, 21, 22, 23, 24, 25], []))]
noncomputable def laws_eqStringS_K : Kont R0 := endK (lookT tab) Try.f23 (Kraw c0.as c0.rs)
noncomputable def laws_eqStringS_B1 (k : Nat) : Code × Kont R0 := focus (lookT tab) (gamX tb0) laws_eqStringS_J 0 k 0 [.r, .r, .l, .r, .b] (bodyOf Try.f23) laws_eqStringS_K
noncomputable def laws_eqStringS_F1 (k : Nat) (rec : List V → Mem → Option R0) : List V → Mem → Option R0 := loopF (lookT tab) (gamX tb0) laws_eqStringS_J 0 k 0 (laws_eqStringS_B1 k).1 (laws_eqStringS_B1 k).2 rec
def laws_eqStringS_st1 (a : (List Str)) (b : (List Str)) (v1 : Int) : List V × Mem := ([.d (.sl .str) a, .d (.sl .str) b, J, J, J, .d (.int .i64) v1, J, J, J, J, J, J, J, J, J, J, J, J, J, J, J, J, J, J, J, J], [])
theorem laws_eqStringS_h1 (k : Nat) (a : (List Str)) (b : (List Str)) (r1 : List V → Mem → Option R0) (x : Int) : laws_eqStringS_F1 k r1 (laws_eqStringS_st1 a b x).1 (laws_eqStringS_st1 a b x).2 = laws_eqStringS_t1 laws_eqStringS_enc (fun v1_ => r1 (laws_eqStringS_st1 a b v1_).1 (laws_eqStringS_st1 a b v1_).2) a b x := by kernel_rfl
theorem laws_eqStringS_k1 (k : Nat) (a : (List Str)) (b : (List Str)) : ∀ n : Nat, (fun x : Int => iter n (laws_eqStringS_F1 k) (laws_eqStringS_st1 a b x).1 (laws_eqStringS_st1 a b x).2) = fun x => laws_eqStringS_l1 laws_eqStringS_enc k a b n x :=
  iter_link (laws_eqStringS_F1 k) (fun x : Int => (laws_eqStringS_st1 a b x)) (fun g x => laws_eqStringS_t1 laws_eqStringS_enc (fun v1_ => g v1_) a b x) (fun n x => laws_eqStringS_l1 laws_eqStringS_enc k a b n x) (fun _ => rfl) (fun _ _ => rfl) (fun r1 x => (laws_eqStringS_h1 k a b r1 x))
theorem laws_eqStringS_r1 (k : Nat) : (fun (a_ : (List Str)) (b_ : (List Str)) (v1_ : Int) => iter k (laws_eqStringS_F1 k) (laws_eqStringS_st1 a_ b_ v1_).1 (laws_eqStringS_st1 a_ b_ v1_).2) = (fun (a_ : (List Str)) (b_ : (List Str)) (v1_ : Int) => laws_eqStringS_l1 laws_eqStringS_enc k a_ b_ k v1_) := by
  funext a_ b_ v1_; exact congrFun (laws_eqStringS_k1 k a_ b_ k) v1_
theorem laws_eqStringS_h0 (k : Nat) (x : AsD c0.as) : funE (lookT tab) (gamX tb0) laws_eqStringS_J 0 k Try.f23 (asV c0.as x 0) (asM c0.as x 0) (Kraw c0.as c0.rs) = laws_eqStringS_t0 laws_eqStringS_enc (fun (a_ : (List Str)) (b_ : (List Str)) (v1_ : Int) => iter k (laws_eqStringS_F1 k) (laws_eqStringS_st1 a_ b_ v1_).1 (laws_eqStringS_st1 a_ b_ v1_).2) x.1 x.2.1 := by kernel_rfl
theorem laws_eqStringS_link (k : Nat) (x : AsD c0.as) : funE (lookT tab) (gamX tb0) laws_eqStringS_J 0 k Try.f23 (asV c0.as x 0) (asM c0.as x 0) (Kraw c0.as c0.rs) = laws_eqStringS_s laws_eqStringS_enc k x.1 x.2.1 := by
  rw [laws_eqStringS_h0 k x, laws_eqStringS_r1 k]; rfl
theorem laws_eqStringS_e (x : AsD c0.as) : laws_eqStringS_enc (laws_eqStringS_f x.1 x.2.1) = some (c0.resB (c0.f x), c0.memB (c0.f x)) := by kernel_rfl
theorem laws_eqStringS_p (x : AsD c0.as) : c0.pre x = laws_eqStringS_pre x.1 x.2.1 := by kernel_rfl
theorem ok0 : XOk Try.prog 23 c0 := x_ok (c := c0) (J := laws_eqStringS_J) (k := fun x => laws_eqStringS_k x.1 x.2.1) tok (gamX_ok all0) mixed Try.func23 rfl (by kernel_rfl) fun x h => (laws_eqStringS_link _ x).trans ((laws_eqStringS_law laws_eqStringS_enc x.1 x.2.1 ((laws_eqStringS_p x).symm.trans h)).trans (laws_eqStringS_e x))
def tb1 : List (FuncId × XC) := (23, c0) :: tb0
theorem all1 : AllOk Try.prog tb1 := allOk_cons ok0 all0
def c1_y (y : Int) : AsD [.dat (.int .i64)] × AsY [.dat (.sl .str), .dat (.int .i64)] := ((y, ()), ((), (), ()))
def c1 : XC := ⟨[.dat (.sl .str), .dat (.int .i64)], [.dat (.int .i64)], fun x => laws_szStringS_pre x.1 x.2.1, fun x => c1_y (laws_szStringS_f x.1 x.2.1)⟩
def laws_szStringS_enc (y : Int) : Option R0 := some (c1.resB (c1_y y), c1.memB (c1_y y))
def laws_szStringS_J : Hds := [(0, ([2, 3, 4, 6, 7, 8, 9, 10, 11, 12, 13, 14, 15, 16, 17, 18, 19, 20, 21, 22, 23, 24, 25, 26, 27], []))]
noncomputable def laws_szStringS_K : Kont R0 := endK (lookT tab) Try.f31 (Kraw c1.as c1.rs)
noncomputable def laws_szStringS_B1 (k : Nat) : Code × Kont R0 := focus (lookT tab) (gamX tb1) laws_szStringS_J 0 k 0 [.r, .r, .r, .l, .r, .b] (bodyOf Try.f31) laws_szStringS_K
noncomputable def laws_szStringS_F1 (k : Nat) (rec : List V → Mem → Option R0) : List V → Mem → Option R0 := loopF (lookT tab) (gamX tb1) laws_szStringS_J 0 k 0 (laws_szStringS_B1 k).1 (laws_szStringS_B1 k).2 rec
def laws_szStringS_st1 (a : (List Str)) (v1 : Int) (v2 : Int) : List V × Mem := ([.d (.sl .str) a, .d (.int .i64) v1, J, J, J, .d (.int .i64) v2, J, J, J, J, J, J, J, J, J, J, J, J, J, J, J, J, J, J, J, J, J, J], [])
theorem laws_szStringS_h1 (k : Nat) (a : (List Str)) (r1 : List V → Mem → Option R0) (x : Int × Int) : laws_szStringS_F1 k r1 (laws_szStringS_st1 a x.1 x.2).1 (laws_szStringS_st1 a x.1 x.2).2 = laws_szStringS_t1 laws_szStringS_enc (fun v1_ v2_ => r1 (laws_szStringS_st1 a v1_ v2_).1 (laws_szStringS_st1 a v1_ v2_).2) a x.1 x.2 := by kernel_rfl
theorem laws_szStringS_k1 (k : Nat) (a : (List Str)) : ∀ n : Nat, (fun x : Int × Int => iter n (laws_szStringS_F1 k) (laws_szStringS_st1 a x.1 x.2).1 (laws_szStringS_st1 a x.1 x.2).2) = fun x => laws_szStringS_l1 laws_szStringS_enc k a n x.1 x.2 :=
  iter_link (laws_szStringS_F1 k) (fun x : Int × Int => (laws_szStringS_st1 a x.1 x.2)) (fun g x => laws_szStringS_t1 laws_szStringS_enc (fun v1_ v2_ => g (v1_, v2_)) a x.1 x.2) (fun n x => laws_szStringS_l1 laws_szStringS_enc k a n x.1 x.2) (fun _ => rfl) (fun _ _ => rfl) (fun r1 x => (laws_szStringS_h1 k a r1 x))
theorem laws_szStringS_r1 (k : Nat) : (fun (a_ : (List Str)) (v1_ : Int) (v2_ : Int) => iter k (laws_szStringS_F1 k) (laws_szStringS_st1 a_ v1_ v2_).1 (laws_szStringS_st1 a_ v1_ v2_).2) = (fun (a_ : (List Str)) (v1_ : Int) (v2_ : Int) => laws_szStringS_l1 laws_szStringS_enc k a_ k v1_ v2_) := by
  funext a_ v1_ v2_; exact congrFun (laws_szStringS_k1 k a_ k) (v1_, v2_)
theorem laws_szStringS_h0 (k : Nat) (x : AsD c1.as) : funE (lookT tab) (gamX tb1) laws_szStringS_J 0 k Try.f31 (asV c1.as x 0) (asM c1.as x 0) (Kraw c1.as c1.rs) = laws_szStringS_t0 laws_szStringS_enc (fun (a_ : (List Str)) (v1_ : Int) (v2_ : Int) => iter k (laws_szStringS_F1 k) (laws_szStringS_st1 a_ v1_ v2_).1 (laws_szStringS_st1 a_ v1_ v2_).2) x.1 x.2.1 := by kernel_rfl
theorem laws_szStringS_link (k : Nat) (x : AsD c1.as) : funE (lookT tab) (gamX tb1) laws_szStringS_J 0 k Try.f31 (asV c1.as x 0) (asM c1.as x 0) (Kraw c1.as c1.rs) = laws_szStringS_s laws_szStringS_enc k x.1 x.2.1 := by
  rw [laws_szStringS_h0 k x, laws_szStringS_r1 k]; rfl
theorem laws_szStringS_e (x : AsD c1.as) : laws_szStringS_enc (laws_szStringS_f x.1 x.2.1) = some (c1.resB (c1.f x), c1.memB (c1.f x)) := by kernel_rfl
theorem laws_szStringS_p (x : AsD c1.as) : c1.pre x = laws_szStringS_pre x.1 x.2.1 := by kernel_rfl
theorem ok1 : XOk Try.prog 31 c1 := x_ok (c := c1) (J := laws_szStringS_J) (k := fun x => laws_szStringS_k x.1 x.2.1) tok (gamX_ok all1) mixed Try.func31 rfl (by kernel_rfl) fun x h => (laws_szStringS_link _ x).trans ((laws_szStringS_law laws_szStringS_enc x.1 x.2.1 ((laws_szStringS_p x).symm.trans h)).trans (laws_szStringS_e x))
def tb2 : List (FuncId × XC) := (31, c1) :: tb1
theorem all2 : AllOk Try.prog tb2 := allOk_cons ok1 all1
def c2_y (y : (List Str)) : AsD [.val false (.own .str none)] × AsY [.dat (.sl .str)] := ((y, ()), ((), ()))
def c2 : XC := ⟨[.dat (.sl .str)], [.val false (.own .str none)], fun x => laws_toStringS_pre x.1, fun x => c2_y (laws_toStringS_f x.1)⟩
def laws_toStringS_enc (y : (List Str)) : Option R0 := some (c2.resB (c2_y y), c2.memB (c2_y y))
def laws_toStringS_J : Hds := [(0, ([1, 2, 5, 6, 7, 8, 9, 10, 11, 12, 13, 14, 15, 16, 17, 18, 19, 20, 21], []))]
noncomputable def laws_toStringS_K : Kont R0 := endK (lookT tab) Try.f33 (Kraw c2.as c2.rs)
noncomputable def laws_toStringS_B1 (k : Nat) : Code × Kont R0 := focus (lookT tab) (gamX tb2) laws_toStringS_J 0 k 0 [.r, .r, .l, .r, .b] (bodyOf Try.f33) laws_toStringS_K
noncomputable def laws_toStringS_F1 (k : Nat) (rec : List V → Mem → Option R0) : List V → Mem → Option R0 := loopF (lookT tab) (gamX tb2) laws_toStringS_J 0 k 0 (laws_toStringS_B1 k).1 (laws_toStringS_B1 k).2 rec
def laws_toStringS_st1 (a : (List Str)) (v1 : Int) (v2 : (List Str)) : List V × Mem := ([.d (.sl .str) a, J, J, .own 0 none, .d (.int .i64) v1, J, J, J, J, J, J, J, J, J, J, J, J, J, J, J, J, J], [.row .str v2 (some 9)])
theorem laws_toStringS_h1 (k : Nat) (a : (List Str)) (r1 : List V → Mem → Option R0) (x : Int × (List Str)) : laws_toStringS_F1 k r1 (laws_toStringS_st1 a x.1 x.2).1 (laws_toStringS_st1 a x.1 x.2).2 = laws_toStringS_t1 laws_toStringS_enc (fun v1_ v2_ => r1 (laws_toStringS_st1 a v1_ v2_).1 (laws_toStringS_st1 a v1_ v2_).2) a x.1 x.2 := by kernel_rfl
theorem laws_toStringS_k1 (k : Nat) (a : (List Str)) : ∀ n : Nat, (fun x : Int × (List Str) => iter n (laws_toStringS_F1 k) (laws_toStringS_st1 a x.1 x.2).1 (laws_toStringS_st1 a x.1 x.2).2) = fun x => laws_toStringS_l1 laws_toStringS_enc k a n x.1 x.2 :=
  iter_link (laws_toStringS_F1 k) (fun x : Int × (List Str) => (laws_toStringS_st1 a x.1 x.2)) (fun g x => laws_toStringS_t1 laws_toStringS_enc (fun v1_ v2_ => g (v1_, v2_)) a x.1 x.2) (fun n x => laws_toStringS_l1 laws_toStringS_enc k a n x.1 x.2) (fun _ => rfl) (fun _ _ => rfl) (fun r1 x => (laws_toStringS_h1 k a r1 x))
theorem laws_toStringS_r1 (k : Nat) : (fun (a_ : (List Str)) (v1_ : Int) (v2_ : (List Str)) => iter k (laws_toStringS_F1 k) (laws_toStringS_st1 a_ v1_ v2_).1 (laws_toStringS_st1 a_ v1_ v2_).2) = (fun (a_ : (List Str)) (v1_ : Int) (v2_ : (List Str)) => laws_toStringS_l1 laws_toStringS_enc k a_ k v1_ v2_) := by
  funext a_ v1_ v2_; exact congrFun (laws_toStringS_k1 k a_ k) (v1_, v2_)
theorem laws_toStringS_h0 (k : Nat) (x : AsD c2.as) : funE (lookT tab) (gamX tb2) laws_toStringS_J 0 k Try.f33 (asV c2.as x 0) (asM c2.as x 0) (Kraw c2.as c2.rs) = laws_toStringS_t0 laws_toStringS_enc (fun (a_ : (List Str)) (v1_ : Int) (v2_ : (List Str)) => iter k (laws_toStringS_F1 k) (laws_toStringS_st1 a_ v1_ v2_).1 (laws_toStringS_st1 a_ v1_ v2_).2) x.1 := by kernel_rfl
theorem laws_toStringS_link (k : Nat) (x : AsD c2.as) : funE (lookT tab) (gamX tb2) laws_toStringS_J 0 k Try.f33 (asV c2.as x 0) (asM c2.as x 0) (Kraw c2.as c2.rs) = laws_toStringS_s laws_toStringS_enc k x.1 := by
  rw [laws_toStringS_h0 k x, laws_toStringS_r1 k]; rfl
theorem laws_toStringS_e (x : AsD c2.as) : laws_toStringS_enc (laws_toStringS_f x.1) = some (c2.resB (c2.f x), c2.memB (c2.f x)) := by kernel_rfl
theorem laws_toStringS_p (x : AsD c2.as) : c2.pre x = laws_toStringS_pre x.1 := by kernel_rfl
theorem ok2 : XOk Try.prog 33 c2 := x_ok (c := c2) (J := laws_toStringS_J) (k := fun x => laws_toStringS_k x.1) tok (gamX_ok all2) mixed Try.func33 rfl (by kernel_rfl) fun x h => (laws_toStringS_link _ x).trans ((laws_toStringS_law laws_toStringS_enc x.1 ((laws_toStringS_p x).symm.trans h)).trans (laws_toStringS_e x))
def tb3 : List (FuncId × XC) := (33, c2) :: tb2
theorem all3 : AllOk Try.prog tb3 := allOk_cons ok2 all2
def c3_y (y : Str) : AsD [.dat .str] × AsY [.dat (.sl .str)] := ((y, ()), ((), ()))
def c3 : XC := ⟨[.dat (.sl .str)], [.dat .str], fun x => spec_JoinedPieces_pre x.1, fun x => c3_y (spec_JoinedPieces_f x.1)⟩
def spec_JoinedPieces_enc (y : Str) : Option R0 := some (c3.resB (c3_y y), c3.memB (c3_y y))
def spec_JoinedPieces_J : Hds := [(0, ([1, 2, 5, 6, 7, 8, 9, 10, 11, 12, 13, 14, 15, 16, 17, 18, 19], []))]
noncomputable def spec_JoinedPieces_K : Kont R0 := endK (lookT tab) Try.f35 (Kraw c3.as c3.rs)
noncomputable def spec_JoinedPieces_B1 (k : Nat) : Code × Kont R0 := focus (lookT tab) (gamX tb3) spec_JoinedPieces_J 0 k 0 [.r, .r, .l, .r, .b] (bodyOf Try.f35) spec_JoinedPieces_K
noncomputable def spec_JoinedPieces_F1 (k : Nat) (rec : List V → Mem → Option R0) : List V → Mem → Option R0 := loopF (lookT tab) (gamX tb3) spec_JoinedPieces_J 0 k 0 (spec_JoinedPieces_B1 k).1 (spec_JoinedPieces_B1 k).2 rec
def spec_JoinedPieces_st1 (a_list : (List Str)) (v1 : Int) (v2 : (List Int)) : List V × Mem := ([.d (.sl .str) a_list, J, J, .own 0 none, .d (.int .i64) v1, J, J, J, J, J, J, J, J, J, J, J, J, J, J, J], [.row (.int .u8) v2 (some 5)])
theorem spec_JoinedPieces_h1 (k : Nat) (a_list : (List Str)) (r1 : List V → Mem → Option R0) (x : Int × (List Int)) : spec_JoinedPieces_F1 k r1 (spec_JoinedPieces_st1 a_list x.1 x.2).1 (spec_JoinedPieces_st1 a_list x.1 x.2).2 = spec_JoinedPieces_t1 spec_JoinedPieces_enc (fun v1_ v2_ => r1 (spec_JoinedPieces_st1 a_list v1_ v2_).1 (spec_JoinedPieces_st1 a_list v1_ v2_).2) a_list x.1 x.2 := by kernel_rfl
theorem spec_JoinedPieces_k1 (k : Nat) (a_list : (List Str)) : ∀ n : Nat, (fun x : Int × (List Int) => iter n (spec_JoinedPieces_F1 k) (spec_JoinedPieces_st1 a_list x.1 x.2).1 (spec_JoinedPieces_st1 a_list x.1 x.2).2) = fun x => spec_JoinedPieces_l1 spec_JoinedPieces_enc k a_list n x.1 x.2 :=
  iter_link (spec_JoinedPieces_F1 k) (fun x : Int × (List Int) => (spec_JoinedPieces_st1 a_list x.1 x.2)) (fun g x => spec_JoinedPieces_t1 spec_JoinedPieces_enc (fun v1_ v2_ => g (v1_, v2_)) a_list x.1 x.2) (fun n x => spec_JoinedPieces_l1 spec_JoinedPieces_enc k a_list n x.1 x.2) (fun _ => rfl) (fun _ _ => rfl) (fun r1 x => (spec_JoinedPieces_h1 k a_list r1 x))
theorem spec_JoinedPieces_r1 (k : Nat) : (fun (a_list_ : (List Str)) (v1_ : Int) (v2_ : (List Int)) => iter k (spec_JoinedPieces_F1 k) (spec_JoinedPieces_st1 a_list_ v1_ v2_).1 (spec_JoinedPieces_st1 a_list_ v1_ v2_).2) = (fun (a_list_ : (List Str)) (v1_ : Int) (v2_ : (List Int)) => spec_JoinedPieces_l1 spec_JoinedPieces_enc k a_list_ k v1_ v2_) := by
  funext a_list_ v1_ v2_; exact congrFun (spec_JoinedPieces_k1 k a_list_ k) (v1_, v2_)
theorem spec_JoinedPieces_h0 (k : Nat) (x : AsD c3.as) : funE (lookT tab) (gamX tb3) spec_JoinedPieces_J 0 k Try.f35 (asV c3.as x 0) (asM c3.as x 0) (Kraw c3.as c3.rs) = spec_JoinedPieces_t0 spec_JoinedPieces_enc (fun (a_list_ : (List Str)) (v1_ : Int) (v2_ : (List Int)) => iter k (spec_JoinedPieces_F1 k) (spec_JoinedPieces_st1 a_list_ v1_ v2_).1 (spec_JoinedPieces_st1 a_list_ v1_ v2_).2) x.1 := by kernel_rfl
theorem spec_JoinedPieces_link (k : Nat) (x : AsD c3.as) : funE (lookT tab) (gamX tb3) spec_JoinedPieces_J 0 k Try.f35 (asV c3.as x 0) (asM c3.as x 0) (Kraw c3.as c3.rs) = spec_JoinedPieces_s spec_JoinedPieces_enc k x.1 := by
  rw [spec_JoinedPieces_h0 k x, spec_JoinedPieces_r1 k]; rfl
theorem spec_JoinedPieces_e (x : AsD c3.as) : spec_JoinedPieces_enc (spec_JoinedPieces_f x.1) = some (c3.resB (c3.f x), c3.memB (c3.f x)) := by kernel_rfl
theorem spec_JoinedPieces_p (x : AsD c3.as) : c3.pre x = spec_JoinedPieces_pre x.1 := by kernel_rfl
theorem ok3 : XOk Try.prog 35 c3 := x_ok (c := c3) (J := spec_JoinedPieces_J) (k := fun x => spec_JoinedPieces_k x.1) tok (gamX_ok all3) mixed Try.func35 rfl (by kernel_rfl) fun x h => (spec_JoinedPieces_link _ x).trans ((spec_JoinedPieces_law spec_JoinedPieces_enc x.1 ((spec_JoinedPieces_p x).symm.trans h)).trans (spec_JoinedPieces_e x))
def tb4 : List (FuncId × XC) := (35, c3) :: tb3
theorem all4 : AllOk Try.prog tb4 := allOk_cons ok3 all3
def c4_y (y : Str) : AsD [.dat .str] × AsY [.dat (.sl .str), .dat .str] := ((y, ()), ((), (), ()))
def c4 : XC := ⟨[.dat (.sl .str), .dat .str], [.dat .str], fun x => strings_Join_pre x.1 x.2.1, fun x => c4_y (strings_Join_f x.1 x.2.1)⟩
theorem ok4 : XOk Try.prog 52 c4 := join_xok (fun args w => enter_run Try.func52 rfl (by kernel_rfl) args w) (fun a c sep w => Go.Proofs.Any.strings_Join_none Try.lays156 Try.extra156 a c sep w) (fun bk o c xs sep w h1 h2 h3 h4 h5 => Go.Proofs.Any.strings_Join Try.lays156 Try.extra156 bk o c xs sep w h1 h2 h3 h4 h5)
def tb5 : List (FuncId × XC) := (52, c4) :: tb4
theorem all5 : AllOk Try.prog tb5 := allOk_cons ok4 all4
def c5_y (y : Str) : AsD [.dat .str] × AsY [.dat (.sl .str)] := ((y, ()), ((), ()))
def c5 : XC := ⟨[.dat (.sl .str)], [.dat .str], fun x => impl_JoinedPieces_pre x.1, fun x => c5_y (impl_JoinedPieces_f x.1)⟩
def impl_JoinedPieces_enc (y : Str) : Option R0 := some (c5.resB (c5_y y), c5.memB (c5_y y))
theorem impl_JoinedPieces_link (k : Nat) (x : AsD c5.as) : funE (lookT tab) (gamX tb5) [] 0 k Try.f36 (asV c5.as x 0) (asM c5.as x 0) (Kraw c5.as c5.rs) = impl_JoinedPieces_s impl_JoinedPieces_enc x.1 := by kernel_rfl
theorem impl_JoinedPieces_e (x : AsD c5.as) : impl_JoinedPieces_enc (impl_JoinedPieces_f x.1) = some (c5.resB (c5.f x), c5.memB (c5.f x)) := by kernel_rfl
theorem impl_JoinedPieces_p (x : AsD c5.as) : c5.pre x = impl_JoinedPieces_pre x.1 := by kernel_rfl
theorem ok5 : XOk Try.prog 36 c5 := x_ok (c := c5) (J := []) (k := fun _ => 0) tok (gamX_ok all5) mixed Try.func36 rfl (by kernel_rfl) fun x h => (impl_JoinedPieces_link _ x).trans ((impl_JoinedPieces_law impl_JoinedPieces_enc x.1 ((impl_JoinedPieces_p x).symm.trans h)).trans (impl_JoinedPieces_e x))
def tb6 : List (FuncId × XC) := (36, c5) :: tb5
theorem all6 : AllOk Try.prog tb6 := allOk_cons ok5 all5
def c6_y (y : Bool) : AsD [.dat .bool] × AsY [.dat (.sl .str)] := ((y, ()), ((), ()))
def c6 : XC := ⟨[.dat (.sl .str)], [.dat .bool], fun x => laws_FnExactJoinedPieces_pre x.1, fun x => c6_y (laws_FnExactJoinedPieces_f x.1)⟩
def laws_FnExactJoinedPieces_enc (y : Bool) : Option R0 := some (c6.resB (c6_y y), c6.memB (c6_y y))
theorem laws_FnExactJoinedPieces_link (k : Nat) (x : AsD c6.as) : funE (lookT tab) (gamX tb6) [] 0 k Try.f10 (asV c6.as x 0) (asM c6.as x 0) (Kraw c6.as c6.rs) = laws_FnExactJoinedPieces_s laws_FnExactJoinedPieces_enc x.1 := by kernel_rfl
theorem laws_FnExactJoinedPieces_e (x : AsD c6.as) : laws_FnExactJoinedPieces_enc (laws_FnExactJoinedPieces_f x.1) = some (c6.resB (c6.f x), c6.memB (c6.f x)) := by kernel_rfl
theorem laws_FnExactJoinedPieces_p (x : AsD c6.as) : c6.pre x = laws_FnExactJoinedPieces_pre x.1 := by kernel_rfl
theorem ok6 : XOk Try.prog 10 c6 := x_ok (c := c6) (J := []) (k := fun _ => 0) tok (gamX_ok all6) mixed Try.func10 rfl (by kernel_rfl) fun x h => (laws_FnExactJoinedPieces_link _ x).trans ((laws_FnExactJoinedPieces_law laws_FnExactJoinedPieces_enc x.1 ((laws_FnExactJoinedPieces_p x).symm.trans h)).trans (laws_FnExactJoinedPieces_e x))
def tb7 : List (FuncId × XC) := (10, c6) :: tb6
theorem all7 : AllOk Try.prog tb7 := allOk_cons ok6 all6
end Go.Proofs.Ytopiinnggjcbnaa.VJoinedPieces
