/- FnExactEarly: each function does what its plain function says (links by the kernel). -/
import Derived.Test.YtopiinnggjcbnaaViD
import Derived.Test.YtopiinnggjcbnaaPEarly
import Derived.Test.YtopiinnggjcbnaaProg
import Derived.KernelRfl
set_option linter.unusedVariables false
namespace Go.Proofs.Ytopiinnggjcbnaa.VEarly
open Go Go.Vi Go.Vp
abbrev J : V := .junk
def tab : List (TypeId × TI) := [(3, ⟨1, 8, .int .i64, some (.int .i64)⟩), (5, ⟨1, 1, .int .u8, some (.int .u8)⟩), (9, ⟨1, 16, .str, some .str⟩), (28, ⟨1, 24, .sl 9, some (.sl .str)⟩), (84, ⟨1, 24, .sl 5, some (.sl (.int .u8))⟩)]
theorem tabB : (tab.all fun x => tiB Try.prog (lookT tab) x.1) = true := by kernel_rfl
theorem tok : TOK Try.prog (lookT tab) := tok_of tabB
theorem mixed : Try.prog.follows .mixedOrders = true := by kernel_rfl
def tb0 : List (FuncId × XC) := []
theorem all0 : AllOk Try.prog tb0 := allOk_nil
def c0_y (y : Int) : AsD [.dat (.int .i64)] × AsY [.dat (.int .i64), .dat (.int .i64), .dat (.int .i64)] := ((y, ()), ((), (), (), ()))
def c0 : XC := ⟨[.dat (.int .i64), .dat (.int .i64), .dat (.int .i64)], [.dat (.int .i64)], fun _ => true, fun x => c0_y (spec_Brought_f x.1 x.2.1 x.2.2.1)⟩
def spec_Brought_enc (y : Int) : Option R0 := some (c0.resB (c0_y y), c0.memB (c0_y y))
theorem spec_Brought_link (k : Nat) (x : AsD c0.as) : funE (lookT tab) (gamX tb0) [] 0 k Try.f50 (asV c0.as x 0) (asM c0.as x 0) (Kraw c0.as c0.rs) = spec_Brought_s spec_Brought_enc x.1 x.2.1 x.2.2.1 := by kernel_rfl
theorem spec_Brought_e (x : AsD c0.as) : spec_Brought_enc (spec_Brought_f x.1 x.2.1 x.2.2.1) = some (c0.resB (c0.f x), c0.memB (c0.f x)) := by kernel_rfl
theorem ok0 : XOk Try.prog 50 c0 := x_ok (c := c0) (J := []) (k := fun _ => 0) tok (gamX_ok all0) mixed Try.func50 rfl (by kernel_rfl) fun x _ => (spec_Brought_link _ x).trans ((spec_Brought_law spec_Brought_enc x.1 x.2.1 x.2.2.1).trans (spec_Brought_e x))
def tb1 : List (FuncId × XC) := (50, c0) :: tb0
theorem all1 : AllOk Try.prog tb1 := allOk_cons ok0 all0
def c1_y (y : Bool) : AsD [.dat .bool] × AsY [.dat (.sl .str), .dat (.sl .str)] := ((y, ()), ((), (), ()))
def c1 : XC := ⟨[.dat (.sl .str), .dat (.sl .str)], [.dat .bool], fun x => laws_eqStringS_pre x.1 x.2.1, fun x => c1_y (laws_eqStringS_f x.1 x.2.1)⟩
def laws_eqStringS_enc (y : Bool) : Option R0 := some (c1.resB (c1_y y), c1.memB (c1_y y))
def laws_eqStringS_J : Hds := [(0, ([2, 3, 4, 6, 7, 8, 9, 10, 11, 12, 13, 14, 15, 16, 17, 18, 19, 20, 21, 22, 23, 24, 25], []))]
noncomputable def laws_eqStringS_K : Kont R0 := endK (lookT tab) Try.f23 (Kraw c1.as c1.rs)
noncomputable def laws_eqStringS_B1 (k : Nat) : Code × Kont R0 := focus (lookT tab) (gamX tb1) laws_eqStringS_J 0 k 0 [.r, .r, .l, .r, .b] (bodyOf Try.f23) laws_eqStringS_K
noncomputable def laws_eqStringS_F1 (k : Nat) (rec : List V → Mem → Option R0) : List V → Mem → Option R0 := loopF (lookT tab) (gamX tb1) laws_eqStringS_J 0 k 0 (laws_eqStringS_B1 k).1 (laws_eqStringS_B1 k).2 rec
def laws_eqStringS_st1 (a : (List Str)) (b : (List Str)) (v1 : Int) : List V × Mem := ([.d (.sl .str) a, .d (.sl .str) b, J, J, J, .d (.int .i64) v1, J, J, J, J, J, J, J, J, J, J, J, J, J, J, J, J, J, J, J, J], [])
theorem laws_eqStringS_h1 (k : Nat) (a : (List Str)) (b : (List Str)) (r1 : List V → Mem → Option R0) (x : Int) : laws_eqStringS_F1 k r1 (laws_eqStringS_st1 a b x).1 (laws_eqStringS_st1 a b x).2 = laws_eqStringS_t1 laws_eqStringS_enc (fun v1_ => r1 (laws_eqStringS_st1 a b v1_).1 (laws_eqStringS_st1 a b v1_).2) a b x := by kernel_rfl
theorem laws_eqStringS_k1 (k : Nat) (a : (List Str)) (b : (List Str)) : ∀ n : Nat, (fun x : Int => iter n (laws_eqStringS_F1 k) (laws_eqStringS_st1 a b x).1 (laws_eqStringS_st1 a b x).2) = fun x => laws_eqStringS_l1 laws_eqStringS_enc k a b n x :=
  iter_link (laws_eqStringS_F1 k) (fun x : Int => (laws_eqStringS_st1 a b x)) (fun g x => laws_eqStringS_t1 laws_eqStringS_enc (fun v1_ => g v1_) a b x) (fun n x => laws_eqStringS_l1 laws_eqStringS_enc k a b n x) (fun _ => rfl) (fun _ _ => rfl) (fun r1 x => (laws_eqStringS_h1 k a b r1 x))
theorem laws_eqStringS_r1 (k : Nat) : (fun (a_ : (List Str)) (b_ : (List Str)) (v1_ : Int) => iter k (laws_eqStringS_F1 k) (laws_eqStringS_st1 a_ b_ v1_).1 (laws_eqStringS_st1 a_ b_ v1_).2) = (fun (a_ : (List Str)) (b_ : (List Str)) (v1_ : Int) => laws_eqStringS_l1 laws_eqStringS_enc k a_ b_ k v1_) := by
  funext a_ b_ v1_; exact congrFun (laws_eqStringS_k1 k a_ b_ k) v1_
theorem laws_eqStringS_h0 (k : Nat) (x : AsD c1.as) : funE (lookT tab) (gamX tb1) laws_eqStringS_J 0 k Try.f23 (asV c1.as x 0) (asM c1.as x 0) (Kraw c1.as c1.rs) = laws_eqStringS_t0 laws_eqStringS_enc (fun (a_ : (List Str)) (b_ : (List Str)) (v1_ : Int) => iter k (laws_eqStringS_F1 k) (laws_eqStringS_st1 a_ b_ v1_).1 (laws_eqStringS_st1 a_ b_ v1_).2) x.1 x.2.1 := by kernel_rfl
theorem laws_eqStringS_link (k : Nat) (x : AsD c1.as) : funE (lookT tab) (gamX tb1) laws_eqStringS_J 0 k Try.f23 (asV c1.as x 0) (asM c1.as x 0) (Kraw c1.as c1.rs) = laws_eqStringS_s laws_eqStringS_enc k x.1 x.2.1 := by
  rw [laws_eqStringS_h0 k x, laws_eqStringS_r1 k]; rfl
theorem laws_eqStringS_e (x : AsD c1.as) : laws_eqStringS_enc (laws_eqStringS_f x.1 x.2.1) = some (c1.resB (c1.f x), c1.memB (c1.f x)) := by kernel_rfl
theorem laws_eqStringS_p (x : AsD c1.as) : c1.pre x = laws_eqStringS_pre x.1 x.2.1 := by kernel_rfl
theorem ok1 : XOk Try.prog 23 c1 := x_ok (c := c1) (J := laws_eqStringS_J) (k := fun x => laws_eqStringS_k x.1 x.2.1) tok (gamX_ok all1) mixed Try.func23 rfl (by kernel_rfl) fun x h => (laws_eqStringS_link _ x).trans ((laws_eqStringS_law laws_eqStringS_enc x.1 x.2.1 ((laws_eqStringS_p x).symm.trans h)).trans (laws_eqStringS_e x))
def tb2 : List (FuncId × XC) := (23, c1) :: tb1
theorem all2 : AllOk Try.prog tb2 := allOk_cons ok1 all1
def c2_y (y : Str) : AsD [.dat .str] × AsY [.dat (.int .i64)] := ((y, ()), ((), ()))
def c2 : XC := ⟨[.dat (.int .i64)], [.dat .str], fun x => laws_markText_pre x.1, fun x => c2_y (laws_markText_f x.1)⟩
def laws_markText_enc (y : Str) : Option R0 := some (c2.resB (c2_y y), c2.memB (c2_y y))
def laws_markText_J : Hds := [(0, ([1, 2, 4, 5, 6, 7, 8, 9, 10, 11, 12, 13, 14, 15, 16, 17, 18, 19], []))]
noncomputable def laws_markText_K : Kont R0 := endK (lookT tab) Try.f49 (Kraw c2.as c2.rs)
noncomputable def laws_markText_B1 (k : Nat) : Code × Kont R0 := focus (lookT tab) (gamX tb2) laws_markText_J 0 k 0 [.r, .r, .r, .l, .b] (bodyOf Try.f49) laws_markText_K
noncomputable def laws_markText_F1 (k : Nat) (rec : List V → Mem → Option R0) : List V → Mem → Option R0 := loopF (lookT tab) (gamX tb2) laws_markText_J 0 k 0 (laws_markText_B1 k).1 (laws_markText_B1 k).2 rec
def laws_markText_st1 (v1 : Int) (v2 : Str) : List V × Mem := ([.d (.int .i64) v1, J, J, .d .str v2, J, J, J, J, J, J, J, J, J, J, J, J, J, J, J, J], [])
theorem laws_markText_h1 (k : Nat) (r1 : List V → Mem → Option R0) (x : Int × Str) : laws_markText_F1 k r1 (laws_markText_st1 x.1 x.2).1 (laws_markText_st1 x.1 x.2).2 = laws_markText_t1 laws_markText_enc (fun v1_ v2_ => r1 (laws_markText_st1 v1_ v2_).1 (laws_markText_st1 v1_ v2_).2) x.1 x.2 := by kernel_rfl
theorem laws_markText_k1 (k : Nat) : ∀ n : Nat, (fun x : Int × Str => iter n (laws_markText_F1 k) (laws_markText_st1 x.1 x.2).1 (laws_markText_st1 x.1 x.2).2) = fun x => laws_markText_l1 laws_markText_enc k n x.1 x.2 :=
  iter_link (laws_markText_F1 k) (fun x : Int × Str => (laws_markText_st1 x.1 x.2)) (fun g x => laws_markText_t1 laws_markText_enc (fun v1_ v2_ => g (v1_, v2_)) x.1 x.2) (fun n x => laws_markText_l1 laws_markText_enc k n x.1 x.2) (fun _ => rfl) (fun _ _ => rfl) (fun r1 x => (laws_markText_h1 k r1 x))
theorem laws_markText_r1 (k : Nat) : (fun (v1_ : Int) (v2_ : Str) => iter k (laws_markText_F1 k) (laws_markText_st1 v1_ v2_).1 (laws_markText_st1 v1_ v2_).2) = (fun (v1_ : Int) (v2_ : Str) => laws_markText_l1 laws_markText_enc k k v1_ v2_) := by
  funext v1_ v2_; exact congrFun (laws_markText_k1 k k) (v1_, v2_)
theorem laws_markText_h0 (k : Nat) (x : AsD c2.as) : funE (lookT tab) (gamX tb2) laws_markText_J 0 k Try.f49 (asV c2.as x 0) (asM c2.as x 0) (Kraw c2.as c2.rs) = laws_markText_t0 laws_markText_enc (fun (v1_ : Int) (v2_ : Str) => iter k (laws_markText_F1 k) (laws_markText_st1 v1_ v2_).1 (laws_markText_st1 v1_ v2_).2) x.1 := by kernel_rfl
theorem laws_markText_link (k : Nat) (x : AsD c2.as) : funE (lookT tab) (gamX tb2) laws_markText_J 0 k Try.f49 (asV c2.as x 0) (asM c2.as x 0) (Kraw c2.as c2.rs) = laws_markText_s laws_markText_enc k x.1 := by
  rw [laws_markText_h0 k x, laws_markText_r1 k]; rfl
theorem laws_markText_e (x : AsD c2.as) : laws_markText_enc (laws_markText_f x.1) = some (c2.resB (c2.f x), c2.memB (c2.f x)) := by kernel_rfl
theorem laws_markText_p (x : AsD c2.as) : c2.pre x = laws_markText_pre x.1 := by kernel_rfl
theorem ok2 : XOk Try.prog 49 c2 := x_ok (c := c2) (J := laws_markText_J) (k := fun x => laws_markText_k x.1) tok (gamX_ok all2) mixed Try.func49 rfl (by kernel_rfl) fun x h => (laws_markText_link _ x).trans ((laws_markText_law laws_markText_enc x.1 ((laws_markText_p x).symm.trans h)).trans (laws_markText_e x))
def tb3 : List (FuncId × XC) := (49, c2) :: tb2
theorem all3 : AllOk Try.prog tb3 := allOk_cons ok2 all2
def c3_y (y : Int × (List Str)) : AsD [.dat (.int .i64)] × AsY [.val false (.own .str none), .dat (.int .i64)] := ((y.1, ()), (y.2, (), ()))
def c3 : XC := ⟨[.val false (.own .str none), .dat (.int .i64)], [.dat (.int .i64)], fun x => laws_markStringS_pre x.1 x.2.1, fun x => c3_y (laws_markStringS_f x.1 x.2.1)⟩
def laws_markStringS_enc (y : Int × (List Str)) : Option R0 := some (c3.resB (c3_y y), c3.memB (c3_y y))
def laws_markStringS_J : Hds := [(0, ([2, 3, 4, 6, 7, 8, 9, 10, 11, 12, 13, 14, 15, 16, 17, 18, 19], []))]
noncomputable def laws_markStringS_K : Kont R0 := endK (lookT tab) Try.f24 (Kraw c3.as c3.rs)
noncomputable def laws_markStringS_B1 (k : Nat) : Code × Kont R0 := focus (lookT tab) (gamX tb3) laws_markStringS_J 1 k 0 [.r, .l, .r, .b] (bodyOf Try.f24) laws_markStringS_K
noncomputable def laws_markStringS_F1 (k : Nat) (rec : List V → Mem → Option R0) : List V → Mem → Option R0 := loopF (lookT tab) (gamX tb3) laws_markStringS_J 1 k 0 (laws_markStringS_B1 k).1 (laws_markStringS_B1 k).2 rec
def laws_markStringS_st1 (v2 : Int) (v3 : Int) (v4 : (List Str)) : List V × Mem := ([.own 0 none, .d (.int .i64) v2, J, J, J, .d (.int .i64) v3, J, J, J, J, J, J, J, J, J, J, J, J, J, J], [.row .str v4 none])
theorem laws_markStringS_h1 (k : Nat) (r1 : List V → Mem → Option R0) (x : Int × Int × (List Str)) : laws_markStringS_F1 k r1 (laws_markStringS_st1 x.1 x.2.1 x.2.2).1 (laws_markStringS_st1 x.1 x.2.1 x.2.2).2 = laws_markStringS_t1 laws_markStringS_enc (fun v2_ v3_ v4_ => r1 (laws_markStringS_st1 v2_ v3_ v4_).1 (laws_markStringS_st1 v2_ v3_ v4_).2) x.1 x.2.1 x.2.2 := by kernel_rfl
theorem laws_markStringS_k1 (k : Nat) : ∀ n : Nat, (fun x : Int × Int × (List Str) => iter n (laws_markStringS_F1 k) (laws_markStringS_st1 x.1 x.2.1 x.2.2).1 (laws_markStringS_st1 x.1 x.2.1 x.2.2).2) = fun x => laws_markStringS_l1 laws_markStringS_enc k n x.1 x.2.1 x.2.2 :=
  iter_link (laws_markStringS_F1 k) (fun x : Int × Int × (List Str) => (laws_markStringS_st1 x.1 x.2.1 x.2.2)) (fun g x => laws_markStringS_t1 laws_markStringS_enc (fun v2_ v3_ v4_ => g (v2_, v3_, v4_)) x.1 x.2.1 x.2.2) (fun n x => laws_markStringS_l1 laws_markStringS_enc k n x.1 x.2.1 x.2.2) (fun _ => rfl) (fun _ _ => rfl) (fun r1 x => (laws_markStringS_h1 k r1 x))
theorem laws_markStringS_r1 (k : Nat) : (fun (v2_ : Int) (v3_ : Int) (v4_ : (List Str)) => iter k (laws_markStringS_F1 k) (laws_markStringS_st1 v2_ v3_ v4_).1 (laws_markStringS_st1 v2_ v3_ v4_).2) = (fun (v2_ : Int) (v3_ : Int) (v4_ : (List Str)) => laws_markStringS_l1 laws_markStringS_enc k k v2_ v3_ v4_) := by
  funext v2_ v3_ v4_; exact congrFun (laws_markStringS_k1 k k) (v2_, v3_, v4_)
theorem laws_markStringS_h0 (k : Nat) (x : AsD c3.as) : funE (lookT tab) (gamX tb3) laws_markStringS_J 1 k Try.f24 (asV c3.as x 0) (asM c3.as x 0) (Kraw c3.as c3.rs) = laws_markStringS_t0 laws_markStringS_enc (fun (v2_ : Int) (v3_ : Int) (v4_ : (List Str)) => iter k (laws_markStringS_F1 k) (laws_markStringS_st1 v2_ v3_ v4_).1 (laws_markStringS_st1 v2_ v3_ v4_).2) x.1 x.2.1 := by kernel_rfl
theorem laws_markStringS_link (k : Nat) (x : AsD c3.as) : funE (lookT tab) (gamX tb3) laws_markStringS_J 1 k Try.f24 (asV c3.as x 0) (asM c3.as x 0) (Kraw c3.as c3.rs) = laws_markStringS_s laws_markStringS_enc k x.1 x.2.1 := by
  rw [laws_markStringS_h0 k x, laws_markStringS_r1 k]; rfl
theorem laws_markStringS_e (x : AsD c3.as) : laws_markStringS_enc (laws_markStringS_f x.1 x.2.1) = some (c3.resB (c3.f x), c3.memB (c3.f x)) := by kernel_rfl
theorem laws_markStringS_p (x : AsD c3.as) : c3.pre x = laws_markStringS_pre x.1 x.2.1 := by kernel_rfl
theorem ok3 : XOk Try.prog 24 c3 := x_ok (c := c3) (J := laws_markStringS_J) (k := fun x => laws_markStringS_k x.1 x.2.1) tok (gamX_ok all3) mixed Try.func24 rfl (by kernel_rfl) fun x h => (laws_markStringS_link _ x).trans ((laws_markStringS_law laws_markStringS_enc x.1 x.2.1 ((laws_markStringS_p x).symm.trans h)).trans (laws_markStringS_e x))
def tb4 : List (FuncId × XC) := (24, c3) :: tb3
theorem all4 : AllOk Try.prog tb4 := allOk_cons ok3 all3
def c4_y (y : Int) : AsD [.dat (.int .i64)] × AsY [.dat (.sl .str), .dat (.int .i64)] := ((y, ()), ((), (), ()))
def c4 : XC := ⟨[.dat (.sl .str), .dat (.int .i64)], [.dat (.int .i64)], fun x => laws_heldStringS_pre x.1 x.2.1, fun x => c4_y (laws_heldStringS_f x.1 x.2.1)⟩
def laws_heldStringS_enc (y : Int) : Option R0 := some (c4.resB (c4_y y), c4.memB (c4_y y))
def laws_heldStringS_J : Hds := [(0, ([2, 3, 4, 6, 7, 8, 9, 10, 11, 12, 13, 14, 15, 16, 17, 18, 19, 20, 21], []))]
noncomputable def laws_heldStringS_K : Kont R0 := endK (lookT tab) Try.f25 (Kraw c4.as c4.rs)
noncomputable def laws_heldStringS_B1 (k : Nat) : Code × Kont R0 := focus (lookT tab) (gamX tb4) laws_heldStringS_J 0 k 0 [.r, .l, .r, .b] (bodyOf Try.f25) laws_heldStringS_K
noncomputable def laws_heldStringS_F1 (k : Nat) (rec : List V → Mem → Option R0) : List V → Mem → Option R0 := loopF (lookT tab) (gamX tb4) laws_heldStringS_J 0 k 0 (laws_heldStringS_B1 k).1 (laws_heldStringS_B1 k).2 rec
def laws_heldStringS_st1 (a : (List Str)) (v2 : Int) (v3 : Int) : List V × Mem := ([.d (.sl .str) a, .d (.int .i64) v2, J, J, J, .d (.int .i64) v3, J, J, J, J, J, J, J, J, J, J, J, J, J, J, J, J], [])
theorem laws_heldStringS_h1 (k : Nat) (a : (List Str)) (r1 : List V → Mem → Option R0) (x : Int × Int) : laws_heldStringS_F1 k r1 (laws_heldStringS_st1 a x.1 x.2).1 (laws_heldStringS_st1 a x.1 x.2).2 = laws_heldStringS_t1 laws_heldStringS_enc (fun v2_ v3_ => r1 (laws_heldStringS_st1 a v2_ v3_).1 (laws_heldStringS_st1 a v2_ v3_).2) a x.1 x.2 := by kernel_rfl
theorem laws_heldStringS_k1 (k : Nat) (a : (List Str)) : ∀ n : Nat, (fun x : Int × Int => iter n (laws_heldStringS_F1 k) (laws_heldStringS_st1 a x.1 x.2).1 (laws_heldStringS_st1 a x.1 x.2).2) = fun x => laws_heldStringS_l1 laws_heldStringS_enc k a n x.1 x.2 :=
  iter_link (laws_heldStringS_F1 k) (fun x : Int × Int => (laws_heldStringS_st1 a x.1 x.2)) (fun g x => laws_heldStringS_t1 laws_heldStringS_enc (fun v2_ v3_ => g (v2_, v3_)) a x.1 x.2) (fun n x => laws_heldStringS_l1 laws_heldStringS_enc k a n x.1 x.2) (fun _ => rfl) (fun _ _ => rfl) (fun r1 x => (laws_heldStringS_h1 k a r1 x))
theorem laws_heldStringS_r1 (k : Nat) : (fun (a_ : (List Str)) (v2_ : Int) (v3_ : Int) => iter k (laws_heldStringS_F1 k) (laws_heldStringS_st1 a_ v2_ v3_).1 (laws_heldStringS_st1 a_ v2_ v3_).2) = (fun (a_ : (List Str)) (v2_ : Int) (v3_ : Int) => laws_heldStringS_l1 laws_heldStringS_enc k a_ k v2_ v3_) := by
  funext a_ v2_ v3_; exact congrFun (laws_heldStringS_k1 k a_ k) (v2_, v3_)
theorem laws_heldStringS_h0 (k : Nat) (x : AsD c4.as) : funE (lookT tab) (gamX tb4) laws_heldStringS_J 0 k Try.f25 (asV c4.as x 0) (asM c4.as x 0) (Kraw c4.as c4.rs) = laws_heldStringS_t0 laws_heldStringS_enc (fun (a_ : (List Str)) (v2_ : Int) (v3_ : Int) => iter k (laws_heldStringS_F1 k) (laws_heldStringS_st1 a_ v2_ v3_).1 (laws_heldStringS_st1 a_ v2_ v3_).2) x.1 x.2.1 := by kernel_rfl
theorem laws_heldStringS_link (k : Nat) (x : AsD c4.as) : funE (lookT tab) (gamX tb4) laws_heldStringS_J 0 k Try.f25 (asV c4.as x 0) (asM c4.as x 0) (Kraw c4.as c4.rs) = laws_heldStringS_s laws_heldStringS_enc k x.1 x.2.1 := by
  rw [laws_heldStringS_h0 k x, laws_heldStringS_r1 k]; rfl
theorem laws_heldStringS_e (x : AsD c4.as) : laws_heldStringS_enc (laws_heldStringS_f x.1 x.2.1) = some (c4.resB (c4.f x), c4.memB (c4.f x)) := by kernel_rfl
theorem laws_heldStringS_p (x : AsD c4.as) : c4.pre x = laws_heldStringS_pre x.1 x.2.1 := by kernel_rfl
theorem ok4 : XOk Try.prog 25 c4 := x_ok (c := c4) (J := laws_heldStringS_J) (k := fun x => laws_heldStringS_k x.1 x.2.1) tok (gamX_ok all4) mixed Try.func25 rfl (by kernel_rfl) fun x h => (laws_heldStringS_link _ x).trans ((laws_heldStringS_law laws_heldStringS_enc x.1 x.2.1 ((laws_heldStringS_p x).symm.trans h)).trans (laws_heldStringS_e x))
def tb5 : List (FuncId × XC) := (25, c4) :: tb4
theorem all5 : AllOk Try.prog tb5 := allOk_cons ok4 all4
def c5_y (y : Int) : AsD [.dat (.int .i64)] × AsY [.dat (.sl .str), .dat (.int .i64)] := ((y, ()), ((), (), ()))
def c5 : XC := ⟨[.dat (.sl .str), .dat (.int .i64)], [.dat (.int .i64)], fun x => laws_szStringS_pre x.1 x.2.1, fun x => c5_y (laws_szStringS_f x.1 x.2.1)⟩
def laws_szStringS_enc (y : Int) : Option R0 := some (c5.resB (c5_y y), c5.memB (c5_y y))
def laws_szStringS_J : Hds := [(0, ([2, 3, 4, 6, 7, 8, 9, 10, 11, 12, 13, 14, 15, 16, 17, 18, 19, 20, 21, 22, 23, 24, 25, 26, 27], []))]
noncomputable def laws_szStringS_K : Kont R0 := endK (lookT tab) Try.f31 (Kraw c5.as c5.rs)
noncomputable def laws_szStringS_B1 (k : Nat) : Code × Kont R0 := focus (lookT tab) (gamX tb5) laws_szStringS_J 0 k 0 [.r, .r, .r, .l, .r, .b] (bodyOf Try.f31) laws_szStringS_K
noncomputable def laws_szStringS_F1 (k : Nat) (rec : List V → Mem → Option R0) : List V → Mem → Option R0 := loopF (lookT tab) (gamX tb5) laws_szStringS_J 0 k 0 (laws_szStringS_B1 k).1 (laws_szStringS_B1 k).2 rec
def laws_szStringS_st1 (a : (List Str)) (v1 : Int) (v2 : Int) : List V × Mem := ([.d (.sl .str) a, .d (.int .i64) v1, J, J, J, .d (.int .i64) v2, J, J, J, J, J, J, J, J, J, J, J, J, J, J, J, J, J, J, J, J, J, J], [])
theorem laws_szStringS_h1 (k : Nat) (a : (List Str)) (r1 : List V → Mem → Option R0) (x : Int × Int) : laws_szStringS_F1 k r1 (laws_szStringS_st1 a x.1 x.2).1 (laws_szStringS_st1 a x.1 x.2).2 = laws_szStringS_t1 laws_szStringS_enc (fun v1_ v2_ => r1 (laws_szStringS_st1 a v1_ v2_).1 (laws_szStringS_st1 a v1_ v2_).2) a x.1 x.2 := by kernel_rfl
theorem laws_szStringS_k1 (k : Nat) (a : (List Str)) : ∀ n : Nat, (fun x : Int × Int => iter n (laws_szStringS_F1 k) (laws_szStringS_st1 a x.1 x.2).1 (laws_szStringS_st1 a x.1 x.2).2) = fun x => laws_szStringS_l1 laws_szStringS_enc k a n x.1 x.2 :=
  iter_link (laws_szStringS_F1 k) (fun x : Int × Int => (laws_szStringS_st1 a x.1 x.2)) (fun g x => laws_szStringS_t1 laws_szStringS_enc (fun v1_ v2_ => g (v1_, v2_)) a x.1 x.2) (fun n x => laws_szStringS_l1 laws_szStringS_enc k a n x.1 x.2) (fun _ => rfl) (fun _ _ => rfl) (fun r1 x => (laws_szStringS_h1 k a r1 x))
theorem laws_szStringS_r1 (k : Nat) : (fun (a_ : (List Str)) (v1_ : Int) (v2_ : Int) => iter k (laws_szStringS_F1 k) (laws_szStringS_st1 a_ v1_ v2_).1 (laws_szStringS_st1 a_ v1_ v2_).2) = (fun (a_ : (List Str)) (v1_ : Int) (v2_ : Int) => laws_szStringS_l1 laws_szStringS_enc k a_ k v1_ v2_) := by
  funext a_ v1_ v2_; exact congrFun (laws_szStringS_k1 k a_ k) (v1_, v2_)
theorem laws_szStringS_h0 (k : Nat) (x : AsD c5.as) : funE (lookT tab) (gamX tb5) laws_szStringS_J 0 k Try.f31 (asV c5.as x 0) (asM c5.as x 0) (Kraw c5.as c5.rs) = laws_szStringS_t0 laws_szStringS_enc (fun (a_ : (List Str)) (v1_ : Int) (v2_ : Int) => iter k (laws_szStringS_F1 k) (laws_szStringS_st1 a_ v1_ v2_).1 (laws_szStringS_st1 a_ v1_ v2_).2) x.1 x.2.1 := by kernel_rfl
theorem laws_szStringS_link (k : Nat) (x : AsD c5.as) : funE (lookT tab) (gamX tb5) laws_szStringS_J 0 k Try.f31 (asV c5.as x 0) (asM c5.as x 0) (Kraw c5.as c5.rs) = laws_szStringS_s laws_szStringS_enc k x.1 x.2.1 := by
  rw [laws_szStringS_h0 k x, laws_szStringS_r1 k]; rfl
theorem laws_szStringS_e (x : AsD c5.as) : laws_szStringS_enc (laws_szStringS_f x.1 x.2.1) = some (c5.resB (c5.f x), c5.memB (c5.f x)) := by kernel_rfl
theorem laws_szStringS_p (x : AsD c5.as) : c5.pre x = laws_szStringS_pre x.1 x.2.1 := by kernel_rfl
theorem ok5 : XOk Try.prog 31 c5 := x_ok (c := c5) (J := laws_szStringS_J) (k := fun x => laws_szStringS_k x.1 x.2.1) tok (gamX_ok all5) mixed Try.func31 rfl (by kernel_rfl) fun x h => (laws_szStringS_link _ x).trans ((laws_szStringS_law laws_szStringS_enc x.1 x.2.1 ((laws_szStringS_p x).symm.trans h)).trans (laws_szStringS_e x))
def tb6 : List (FuncId × XC) := (31, c5) :: tb5
theorem all6 : AllOk Try.prog tb6 := allOk_cons ok5 all5
def c6_y (y : (List Str)) : AsD [.val false (.own .str none)] × AsY [.dat (.sl .str)] := ((y, ()), ((), ()))
def c6 : XC := ⟨[.dat (.sl .str)], [.val false (.own .str none)], fun x => laws_toStringS_pre x.1, fun x => c6_y (laws_toStringS_f x.1)⟩
def laws_toStringS_enc (y : (List Str)) : Option R0 := some (c6.resB (c6_y y), c6.memB (c6_y y))
def laws_toStringS_J : Hds := [(0, ([1, 2, 5, 6, 7, 8, 9, 10, 11, 12, 13, 14, 15, 16, 17, 18, 19, 20, 21], []))]
noncomputable def laws_toStringS_K : Kont R0 := endK (lookT tab) Try.f33 (Kraw c6.as c6.rs)
noncomputable def laws_toStringS_B1 (k : Nat) : Code × Kont R0 := focus (lookT tab) (gamX tb6) laws_toStringS_J 0 k 0 [.r, .r, .l, .r, .b] (bodyOf Try.f33) laws_toStringS_K
noncomputable def laws_toStringS_F1 (k : Nat) (rec : List V → Mem → Option R0) : List V → Mem → Option R0 := loopF (lookT tab) (gamX tb6) laws_toStringS_J 0 k 0 (laws_toStringS_B1 k).1 (laws_toStringS_B1 k).2 rec
def laws_toStringS_st1 (a : (List Str)) (v1 : Int) (v2 : (List Str)) : List V × Mem := ([.d (.sl .str) a, J, J, .own 0 none, .d (.int .i64) v1, J, J, J, J, J, J, J, J, J, J, J, J, J, J, J, J, J], [.row .str v2 (some 9)])
theorem laws_toStringS_h1 (k : Nat) (a : (List Str)) (r1 : List V → Mem → Option R0) (x : Int × (List Str)) : laws_toStringS_F1 k r1 (laws_toStringS_st1 a x.1 x.2).1 (laws_toStringS_st1 a x.1 x.2).2 = laws_toStringS_t1 laws_toStringS_enc (fun v1_ v2_ => r1 (laws_toStringS_st1 a v1_ v2_).1 (laws_toStringS_st1 a v1_ v2_).2) a x.1 x.2 := by kernel_rfl
theorem laws_toStringS_k1 (k : Nat) (a : (List Str)) : ∀ n : Nat, (fun x : Int × (List Str) => iter n (laws_toStringS_F1 k) (laws_toStringS_st1 a x.1 x.2).1 (laws_toStringS_st1 a x.1 x.2).2) = fun x => laws_toStringS_l1 laws_toStringS_enc k a n x.1 x.2 :=
  iter_link (laws_toStringS_F1 k) (fun x : Int × (List Str) => (laws_toStringS_st1 a x.1 x.2)) (fun g x => laws_toStringS_t1 laws_toStringS_enc (fun v1_ v2_ => g (v1_, v2_)) a x.1 x.2) (fun n x => laws_toStringS_l1 laws_toStringS_enc k a n x.1 x.2) (fun _ => rfl) (fun _ _ => rfl) (fun r1 x => (laws_toStringS_h1 k a r1 x))
theorem laws_toStringS_r1 (k : Nat) : (fun (a_ : (List Str)) (v1_ : Int) (v2_ : (List Str)) => iter k (laws_toStringS_F1 k) (laws_toStringS_st1 a_ v1_ v2_).1 (laws_toStringS_st1 a_ v1_ v2_).2) = (fun (a_ : (List Str)) (v1_ : Int) (v2_ : (List Str)) => laws_toStringS_l1 laws_toStringS_enc k a_ k v1_ v2_) := by
  funext a_ v1_ v2_; exact congrFun (laws_toStringS_k1 k a_ k) (v1_, v2_)
theorem laws_toStringS_h0 (k : Nat) (x : AsD c6.as) : funE (lookT tab) (gamX tb6) laws_toStringS_J 0 k Try.f33 (asV c6.as x 0) (asM c6.as x 0) (Kraw c6.as c6.rs) = laws_toStringS_t0 laws_toStringS_enc (fun (a_ : (List Str)) (v1_ : Int) (v2_ : (List Str)) => iter k (laws_toStringS_F1 k) (laws_toStringS_st1 a_ v1_ v2_).1 (laws_toStringS_st1 a_ v1_ v2_).2) x.1 := by kernel_rfl
theorem laws_toStringS_link (k : Nat) (x : AsD c6.as) : funE (lookT tab) (gamX tb6) laws_toStringS_J 0 k Try.f33 (asV c6.as x 0) (asM c6.as x 0) (Kraw c6.as c6.rs) = laws_toStringS_s laws_toStringS_enc k x.1 := by
  rw [laws_toStringS_h0 k x, laws_toStringS_r1 k]; rfl
theorem laws_toStringS_e (x : AsD c6.as) : laws_toStringS_enc (laws_toStringS_f x.1) = some (c6.resB (c6.f x), c6.memB (c6.f x)) := by kernel_rfl
theorem laws_toStringS_p (x : AsD c6.as) : c6.pre x = laws_toStringS_pre x.1 := by kernel_rfl
theorem ok6 : XOk Try.prog 33 c6 := x_ok (c := c6) (J := laws_toStringS_J) (k := fun x => laws_toStringS_k x.1) tok (gamX_ok all6) mixed Try.func33 rfl (by kernel_rfl) fun x h => (laws_toStringS_link _ x).trans ((laws_toStringS_law laws_toStringS_enc x.1 ((laws_toStringS_p x).symm.trans h)).trans (laws_toStringS_e x))
def tb7 : List (FuncId × XC) := (33, c6) :: tb6
theorem all7 : AllOk Try.prog tb7 := allOk_cons ok6 all6
def c7_y (y : Str) : AsD [.dat .str] × AsY [.dat (.sl .str)] := ((y, ()), ((), ()))
def c7 : XC := ⟨[.dat (.sl .str)], [.dat .str], fun x => spec_JoinedPieces_pre x.1, fun x => c7_y (spec_JoinedPieces_f x.1)⟩
def spec_JoinedPieces_enc (y : Str) : Option R0 := some (c7.resB (c7_y y), c7.memB (c7_y y))
def spec_JoinedPieces_J : Hds := [(0, ([1, 2, 5, 6, 7, 8, 9, 10, 11, 12, 13, 14, 15, 16, 17, 18, 19], []))]
noncomputable def spec_JoinedPieces_K : Kont R0 := endK (lookT tab) Try.f35 (Kraw c7.as c7.rs)
noncomputable def spec_JoinedPieces_B1 (k : Nat) : Code × Kont R0 := focus (lookT tab) (gamX tb7) spec_JoinedPieces_J 0 k 0 [.r, .r, .l, .r, .b] (bodyOf Try.f35) spec_JoinedPieces_K
noncomputable def spec_JoinedPieces_F1 (k : Nat) (rec : List V → Mem → Option R0) : List V → Mem → Option R0 := loopF (lookT tab) (gamX tb7) spec_JoinedPieces_J 0 k 0 (spec_JoinedPieces_B1 k).1 (spec_JoinedPieces_B1 k).2 rec
def spec_JoinedPieces_st1 (a_list : (List Str)) (v1 : Int) (v2 : (List Int)) : List V × Mem := ([.d (.sl .str) a_list, J, J, .own 0 none, .d (.int .i64) v1, J, J, J, J, J, J, J, J, J, J, J, J, J, J, J], [.row (.int .u8) v2 (some 5)])
theorem spec_JoinedPieces_h1 (k : Nat) (a_list : (List Str)) (r1 : List V → Mem → Option R0) (x : Int × (List Int)) : spec_JoinedPieces_F1 k r1 (spec_JoinedPieces_st1 a_list x.1 x.2).1 (spec_JoinedPieces_st1 a_list x.1 x.2).2 = spec_JoinedPieces_t1 spec_JoinedPieces_enc (fun v1_ v2_ => r1 (spec_JoinedPieces_st1 a_list v1_ v2_).1 (spec_JoinedPieces_st1 a_list v1_ v2_).2) a_list x.1 x.2 := by kernel_rfl
theorem spec_JoinedPieces_k1 (k : Nat) (a_list : (List Str)) : ∀ n : Nat, (fun x : Int × (List Int) => iter n (spec_JoinedPieces_F1 k) (spec_JoinedPieces_st1 a_list x.1 x.2).1 (spec_JoinedPieces_st1 a_list x.1 x.2).2) = fun x => spec_JoinedPieces_l1 spec_JoinedPieces_enc k a_list n x.1 x.2 :=
  iter_link (spec_JoinedPieces_F1 k) (fun x : Int × (List Int) => (spec_JoinedPieces_st1 a_list x.1 x.2)) (fun g x => spec_JoinedPieces_t1 spec_JoinedPieces_enc (fun v1_ v2_ => g (v1_, v2_)) a_list x.1 x.2) (fun n x => spec_JoinedPieces_l1 spec_JoinedPieces_enc k a_list n x.1 x.2) (fun _ => rfl) (fun _ _ => rfl) (fun r1 x => (spec_JoinedPieces_h1 k a_list r1 x))
theorem spec_JoinedPieces_r1 (k : Nat) : (fun (a_list_ : (List Str)) (v1_ : Int) (v2_ : (List Int)) => iter k (spec_JoinedPieces_F1 k) (spec_JoinedPieces_st1 a_list_ v1_ v2_).1 (spec_JoinedPieces_st1 a_list_ v1_ v2_).2) = (fun (a_list_ : (List Str)) (v1_ : Int) (v2_ : (List Int)) => spec_JoinedPieces_l1 spec_JoinedPieces_enc k a_list_ k v1_ v2_) := by
  funext a_list_ v1_ v2_; exact congrFun (spec_JoinedPieces_k1 k a_list_ k) (v1_, v2_)
theorem spec_JoinedPieces_h0 (k : Nat) (x : AsD c7.as) : funE (lookT tab) (gamX tb7) spec_JoinedPieces_J 0 k Try.f35 (asV c7.as x 0) (asM c7.as x 0) (Kraw c7.as c7.rs) = spec_JoinedPieces_t0 spec_JoinedPieces_enc (fun (a_list_ : (List Str)) (v1_ : Int) (v2_ : (List Int)) => iter k (spec_JoinedPieces_F1 k) (spec_JoinedPieces_st1 a_list_ v1_ v2_).1 (spec_JoinedPieces_st1 a_list_ v1_ v2_).2) x.1 := by kernel_rfl
theorem spec_JoinedPieces_link (k : Nat) (x : AsD c7.as) : funE (lookT tab) (gamX tb7) spec_JoinedPieces_J 0 k Try.f35 (asV c7.as x 0) (asM c7.as x 0) (Kraw c7.as c7.rs) = spec_JoinedPieces_s spec_JoinedPieces_enc k x.1 := by
  rw [spec_JoinedPieces_h0 k x, spec_JoinedPieces_r1 k]; rfl
theorem spec_JoinedPieces_e (x : AsD c7.as) : spec_JoinedPieces_enc (spec_JoinedPieces_f x.1) = some (c7.resB (c7.f x), c7.memB (c7.f x)) := by kernel_rfl
theorem spec_JoinedPieces_p (x : AsD c7.as) : c7.pre x = spec_JoinedPieces_pre x.1 := by kernel_rfl
theorem ok7 : XOk Try.prog 35 c7 := x_ok (c := c7) (J := spec_JoinedPieces_J) (k := fun x => spec_JoinedPieces_k x.1) tok (gamX_ok all7) mixed Try.func35 rfl (by kernel_rfl) fun x h => (spec_JoinedPieces_link _ x).trans ((spec_JoinedPieces_law spec_JoinedPieces_enc x.1 ((spec_JoinedPieces_p x).symm.trans h)).trans (spec_JoinedPieces_e x))
def tb8 : List (FuncId × XC) := (35, c7) :: tb7
theorem all8 : AllOk Try.prog tb8 := allOk_cons ok7 all7
def c8_y (y : (List Str)) : AsD [.dat (.sl .str)] × AsY [.dat (.sl .str), .dat (.int .i64)] := ((y, ()), ((), (), ()))
def c8 : XC := ⟨[.dat (.sl .str), .dat (.int .i64)], [.dat (.sl .str)], fun x => spec_Early_pre x.1 x.2.1, fun x => c8_y (spec_Early_f x.1 x.2.1)⟩
def spec_Early_enc (y : (List Str)) : Option R0 := some (c8.resB (c8_y y), c8.memB (c8_y y))
def spec_Early_J : Hds := [(0, ([1, 2, 3, 4, 8, 9, 10, 11, 12, 13, 14, 15, 16, 17, 18, 19, 20, 21, 22, 23, 24, 25, 26, 27, 28, 29, 30, 31, 32, 33, 34, 35, 36, 37, 38, 39, 40, 41, 42, 43, 44], []))]
noncomputable def spec_Early_K : Kont R0 := endK (lookT tab) Try.f32 (Kraw c8.as c8.rs)
noncomputable def spec_Early_B1 (k : Nat) : Code × Kont R0 := focus (lookT tab) (gamX tb8) spec_Early_J 0 k 0 [.r, .r, .r, .l, .r, .b] (bodyOf Try.f32) spec_Early_K
noncomputable def spec_Early_F1 (k : Nat) (rec : List V → Mem → Option R0) : List V → Mem → Option R0 := loopF (lookT tab) (gamX tb8) spec_Early_J 0 k 0 (spec_Early_B1 k).1 (spec_Early_B1 k).2 rec
def spec_Early_st1 (a_list : (List Str)) (v4 : Int) (v5 : Int) (v6 : (List Str)) : List V × Mem := ([.d (.sl .str) a_list, J, J, J, J, .own 0 none, .d (.int .i64) v4, .d (.int .i64) v5, J, J, J, J, J, J, J, J, J, J, J, J, J, J, J, J, J, J, J, J, J, J, J, J, J, J, J, J, J, J, J, J, J, J, J, J, J], [.row .str v6 (some 9)])
theorem spec_Early_h1 (k : Nat) (a_list : (List Str)) (r1 : List V → Mem → Option R0) (x : Int × Int × (List Str)) : spec_Early_F1 k r1 (spec_Early_st1 a_list x.1 x.2.1 x.2.2).1 (spec_Early_st1 a_list x.1 x.2.1 x.2.2).2 = spec_Early_t1 spec_Early_enc (fun v4_ v5_ v6_ => r1 (spec_Early_st1 a_list v4_ v5_ v6_).1 (spec_Early_st1 a_list v4_ v5_ v6_).2) a_list x.1 x.2.1 x.2.2 := by kernel_rfl
theorem spec_Early_k1 (k : Nat) (a_list : (List Str)) : ∀ n : Nat, (fun x : Int × Int × (List Str) => iter n (spec_Early_F1 k) (spec_Early_st1 a_list x.1 x.2.1 x.2.2).1 (spec_Early_st1 a_list x.1 x.2.1 x.2.2).2) = fun x => spec_Early_l1 spec_Early_enc k a_list n x.1 x.2.1 x.2.2 :=
  iter_link (spec_Early_F1 k) (fun x : Int × Int × (List Str) => (spec_Early_st1 a_list x.1 x.2.1 x.2.2)) (fun g x => spec_Early_t1 spec_Early_enc (fun v4_ v5_ v6_ => g (v4_, v5_, v6_)) a_list x.1 x.2.1 x.2.2) (fun n x => spec_Early_l1 spec_Early_enc k a_list n x.1 x.2.1 x.2.2) (fun _ => rfl) (fun _ _ => rfl) (fun r1 x => (spec_Early_h1 k a_list r1 x))
theorem spec_Early_r1 (k : Nat) : (fun (a_list_ : (List Str)) (v4_ : Int) (v5_ : Int) (v6_ : (List Str)) => iter k (spec_Early_F1 k) (spec_Early_st1 a_list_ v4_ v5_ v6_).1 (spec_Early_st1 a_list_ v4_ v5_ v6_).2) = (fun (a_list_ : (List Str)) (v4_ : Int) (v5_ : Int) (v6_ : (List Str)) => spec_Early_l1 spec_Early_enc k a_list_ k v4_ v5_ v6_) := by
  funext a_list_ v4_ v5_ v6_; exact congrFun (spec_Early_k1 k a_list_ k) (v4_, v5_, v6_)
theorem spec_Early_h0 (k : Nat) (x : AsD c8.as) : funE (lookT tab) (gamX tb8) spec_Early_J 0 k Try.f32 (asV c8.as x 0) (asM c8.as x 0) (Kraw c8.as c8.rs) = spec_Early_t0 spec_Early_enc (fun (a_list_ : (List Str)) (v4_ : Int) (v5_ : Int) (v6_ : (List Str)) => iter k (spec_Early_F1 k) (spec_Early_st1 a_list_ v4_ v5_ v6_).1 (spec_Early_st1 a_list_ v4_ v5_ v6_).2) x.1 x.2.1 := by kernel_rfl
theorem spec_Early_link (k : Nat) (x : AsD c8.as) : funE (lookT tab) (gamX tb8) spec_Early_J 0 k Try.f32 (asV c8.as x 0) (asM c8.as x 0) (Kraw c8.as c8.rs) = spec_Early_s spec_Early_enc k x.1 x.2.1 := by
  rw [spec_Early_h0 k x, spec_Early_r1 k]; rfl
theorem spec_Early_e (x : AsD c8.as) : spec_Early_enc (spec_Early_f x.1 x.2.1) = some (c8.resB (c8.f x), c8.memB (c8.f x)) := by kernel_rfl
theorem spec_Early_p (x : AsD c8.as) : c8.pre x = spec_Early_pre x.1 x.2.1 := by kernel_rfl
theorem ok8 : XOk Try.prog 32 c8 := x_ok (c := c8) (J := spec_Early_J) (k := fun x => spec_Early_k x.1 x.2.1) tok (gamX_ok all8) mixed Try.func32 rfl (by kernel_rfl) fun x h => (spec_Early_link _ x).trans ((spec_Early_law spec_Early_enc x.1 x.2.1 ((spec_Early_p x).symm.trans h)).trans (spec_Early_e x))
def tb9 : List (FuncId × XC) := (32, c8) :: tb8
theorem all9 : AllOk Try.prog tb9 := allOk_cons ok8 all8
def c9_y (y : (List Str)) : AsD [.val false (.own .str none)] × AsY [.dat (.sl .str), .dat (.int .i64)] := ((y, ()), ((), (), ()))
def c9 : XC := ⟨[.dat (.sl .str), .dat (.int .i64)], [.val false (.own .str none)], fun x => impl_Early_pre x.1 x.2.1, fun x => c9_y (impl_Early_f x.1 x.2.1)⟩
def impl_Early_enc (y : (List Str)) : Option R0 := some (c9.resB (c9_y y), c9.memB (c9_y y))
def impl_Early_J : Hds := [(0, ([0, 2, 3, 4, 6, 7, 8, 12, 13, 14, 15, 16, 17, 18, 19, 20, 21, 22, 23, 24, 25, 26, 27, 28, 29, 30, 31, 32, 33, 34, 35, 36, 37, 38, 39, 40, 41, 42, 43, 44, 45, 46, 47, 48, 49], [])), (2, ([0, 1, 2, 3, 4, 6, 7, 8, 9, 10, 11, 12, 13, 14, 15, 16, 17, 18, 19, 20, 21, 22, 23, 24, 25, 26, 27, 28, 29, 30, 31, 32, 33, 34, 35, 36, 37, 38, 39, 40, 41, 42, 43, 44, 45, 46, 47, 48, 49], [⟨5, none, 9, false⟩]))]
noncomputable def impl_Early_K : Kont R0 := endK (lookT tab) Try.f34 (Kraw c9.as c9.rs)
noncomputable def impl_Early_B2 (k : Nat) : Code × Kont R0 := focus (lookT tab) (gamX tb9) impl_Early_J 0 k 0 [.r, .r, .r, .l, .b] (bodyOf Try.f34) impl_Early_K
noncomputable def impl_Early_F2 (k : Nat) (rec : List V → Mem → Option R0) : List V → Mem → Option R0 := loopF (lookT tab) (gamX tb9) impl_Early_J 0 k 2 (impl_Early_B2 k).1 (impl_Early_B2 k).2 rec
def impl_Early_st2 (v7 : (List Str)) : List V × Mem := ([J, J, J, J, J, .own 0 none, J, J, J, J, J, J, J, J, J, J, J, J, J, J, J, J, J, J, J, J, J, J, J, J, J, J, J, J, J, J, J, J, J, J, J, J, J, J, J, J, J, J, J, J], [.row .str v7 none])
noncomputable def impl_Early_B1 (k : Nat) : Code × Kont R0 := focus (lookT tab) (gamX tb9) impl_Early_J 0 k 0 [.r, .r, .l, .r, .b] (bodyOf Try.f34) impl_Early_K
noncomputable def impl_Early_F1 (k : Nat) (rec : List V → Mem → Option R0) : List V → Mem → Option R0 := loopF (lookT tab) (gamX tb9) impl_Early_J 0 k 0 (impl_Early_B1 k).1 (impl_Early_B1 k).2 rec
def impl_Early_st1 (a_list : (List Str)) (v1 : Int) (v2 : Int) (v3 : (List Str)) : List V × Mem := ([J, .d (.int .i64) v1, J, J, J, .own 0 none, J, J, J, .d (.sl .str) a_list, .d (.int .i64) (a_list.length : Int), .d (.int .i64) v2, J, J, J, J, J, J, J, J, J, J, J, J, J, J, J, J, J, J, J, J, J, J, J, J, J, J, J, J, J, J, J, J, J, J, J, J, J, J], [.row .str v3 (some 9)])
theorem impl_Early_h2 (k : Nat) (r2 : List V → Mem → Option R0) (x : (List Str)) : impl_Early_F2 k r2 (impl_Early_st2 x).1 (impl_Early_st2 x).2 = impl_Early_t2 impl_Early_enc (fun v7_ => r2 (impl_Early_st2 v7_).1 (impl_Early_st2 v7_).2) x := by kernel_rfl
theorem impl_Early_k2 (k : Nat) : ∀ n : Nat, (fun x : (List Str) => iter n (impl_Early_F2 k) (impl_Early_st2 x).1 (impl_Early_st2 x).2) = fun x => impl_Early_l2 impl_Early_enc k n x :=
  iter_link (impl_Early_F2 k) (fun x : (List Str) => (impl_Early_st2 x)) (fun g x => impl_Early_t2 impl_Early_enc (fun v7_ => g v7_) x) (fun n x => impl_Early_l2 impl_Early_enc k n x) (fun _ => rfl) (fun _ _ => rfl) (fun r2 x => (impl_Early_h2 k r2 x))
theorem impl_Early_r2 (k : Nat) : (fun (v7_ : (List Str)) => iter k (impl_Early_F2 k) (impl_Early_st2 v7_).1 (impl_Early_st2 v7_).2) = (fun (v7_ : (List Str)) => impl_Early_l2 impl_Early_enc k k v7_) := by
  funext v7_; exact congrFun (impl_Early_k2 k k) v7_
theorem impl_Early_h1 (k : Nat) (a_list : (List Str)) (r1 : List V → Mem → Option R0) (x : Int × Int × (List Str)) : impl_Early_F1 k r1 (impl_Early_st1 a_list x.1 x.2.1 x.2.2).1 (impl_Early_st1 a_list x.1 x.2.1 x.2.2).2 = impl_Early_t1 impl_Early_enc (fun (v7_ : (List Str)) => iter k (impl_Early_F2 k) (impl_Early_st2 v7_).1 (impl_Early_st2 v7_).2) (fun v1_ v2_ v3_ => r1 (impl_Early_st1 a_list v1_ v2_ v3_).1 (impl_Early_st1 a_list v1_ v2_ v3_).2) a_list x.1 x.2.1 x.2.2 := by kernel_rfl
theorem impl_Early_k1 (k : Nat) (a_list : (List Str)) : ∀ n : Nat, (fun x : Int × Int × (List Str) => iter n (impl_Early_F1 k) (impl_Early_st1 a_list x.1 x.2.1 x.2.2).1 (impl_Early_st1 a_list x.1 x.2.1 x.2.2).2) = fun x => impl_Early_l1 impl_Early_enc k a_list n x.1 x.2.1 x.2.2 :=
  iter_link (impl_Early_F1 k) (fun x : Int × Int × (List Str) => (impl_Early_st1 a_list x.1 x.2.1 x.2.2)) (fun g x => impl_Early_t1 impl_Early_enc (fun (v7_ : (List Str)) => impl_Early_l2 impl_Early_enc k k v7_) (fun v1_ v2_ v3_ => g (v1_, v2_, v3_)) a_list x.1 x.2.1 x.2.2) (fun n x => impl_Early_l1 impl_Early_enc k a_list n x.1 x.2.1 x.2.2) (fun _ => rfl) (fun _ _ => rfl) (fun r1 x => by rw [impl_Early_h1 k a_list r1 x, impl_Early_r2 k])
theorem impl_Early_r1 (k : Nat) : (fun (a_list_ : (List Str)) (v1_ : Int) (v2_ : Int) (v3_ : (List Str)) => iter k (impl_Early_F1 k) (impl_Early_st1 a_list_ v1_ v2_ v3_).1 (impl_Early_st1 a_list_ v1_ v2_ v3_).2) = (fun (a_list_ : (List Str)) (v1_ : Int) (v2_ : Int) (v3_ : (List Str)) => impl_Early_l1 impl_Early_enc k a_list_ k v1_ v2_ v3_) := by
  funext a_list_ v1_ v2_ v3_; exact congrFun (impl_Early_k1 k a_list_ k) (v1_, v2_, v3_)
theorem impl_Early_h0 (k : Nat) (x : AsD c9.as) : funE (lookT tab) (gamX tb9) impl_Early_J 0 k Try.f34 (asV c9.as x 0) (asM c9.as x 0) (Kraw c9.as c9.rs) = impl_Early_t0 impl_Early_enc (fun (a_list_ : (List Str)) (v1_ : Int) (v2_ : Int) (v3_ : (List Str)) => iter k (impl_Early_F1 k) (impl_Early_st1 a_list_ v1_ v2_ v3_).1 (impl_Early_st1 a_list_ v1_ v2_ v3_).2) x.1 x.2.1 := by kernel_rfl
theorem impl_Early_link (k : Nat) (x : AsD c9.as) : funE (lookT tab) (gamX tb9) impl_Early_J 0 k Try.f34 (asV c9.as x 0) (asM c9.as x 0) (Kraw c9.as c9.rs) = impl_Early_s impl_Early_enc k x.1 x.2.1 := by
  rw [impl_Early_h0 k x, impl_Early_r1 k]; rfl
theorem impl_Early_e (x : AsD c9.as) : impl_Early_enc (impl_Early_f x.1 x.2.1) = some (c9.resB (c9.f x), c9.memB (c9.f x)) := by kernel_rfl
theorem impl_Early_p (x : AsD c9.as) : c9.pre x = impl_Early_pre x.1 x.2.1 := by kernel_rfl
theorem ok9 : XOk Try.prog 34 c9 := x_ok (c := c9) (J := impl_Early_J) (k := fun x => impl_Early_k x.1 x.2.1) tok (gamX_ok all9) mixed Try.func34 rfl (by kernel_rfl) fun x h => (impl_Early_link _ x).trans ((impl_Early_law impl_Early_enc x.1 x.2.1 ((impl_Early_p x).symm.trans h)).trans (impl_Early_e x))
def tb10 : List (FuncId × XC) := (34, c9) :: tb9
theorem all10 : AllOk Try.prog tb10 := allOk_cons ok9 all9
def c10_y (y : Bool) : AsD [.dat .bool] × AsY [.dat (.sl .str), .dat (.int .i64)] := ((y, ()), ((), (), ()))
def c10 : XC := ⟨[.dat (.sl .str), .dat (.int .i64)], [.dat .bool], fun x => laws_FnExactEarly_pre x.1 x.2.1, fun x => c10_y (laws_FnExactEarly_f x.1 x.2.1)⟩
def laws_FnExactEarly_enc (y : Bool) : Option R0 := some (c10.resB (c10_y y), c10.memB (c10_y y))
theorem laws_FnExactEarly_link (k : Nat) (x : AsD c10.as) : funE (lookT tab) (gamX tb10) [] 0 k Try.f9 (asV c10.as x 0) (asM c10.as x 0) (Kraw c10.as c10.rs) = laws_FnExactEarly_s laws_FnExactEarly_enc x.1 x.2.1 := by kernel_rfl
theorem laws_FnExactEarly_e (x : AsD c10.as) : laws_FnExactEarly_enc (laws_FnExactEarly_f x.1 x.2.1) = some (c10.resB (c10.f x), c10.memB (c10.f x)) := by kernel_rfl
theorem laws_FnExactEarly_p (x : AsD c10.as) : c10.pre x = laws_FnExactEarly_pre x.1 x.2.1 := by kernel_rfl
theorem ok10 : XOk Try.prog 9 c10 := x_ok (c := c10) (J := []) (k := fun _ => 0) tok (gamX_ok all10) mixed Try.func9 rfl (by kernel_rfl) fun x h => (laws_FnExactEarly_link _ x).trans ((laws_FnExactEarly_law laws_FnExactEarly_enc x.1 x.2.1 ((laws_FnExactEarly_p x).symm.trans h)).trans (laws_FnExactEarly_e x))
def tb11 : List (FuncId × XC) := (9, c10) :: tb10
theorem all11 : AllOk Try.prog tb11 := allOk_cons ok10 all10
end Go.Proofs.Ytopiinnggjcbnaa.VEarly
