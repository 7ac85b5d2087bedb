/- FnExactChopped: each function does what its plain function says (links by the kernel). -/
import Derived.Test.YtopiinnggjcbnaaViD
import Derived.Test.YtopiinnggjcbnaaPChopped
import Derived.Test.YtopiinnggjcbnaaProg
import Derived.KernelRfl
set_option linter.unusedVariables false
namespace Go.Proofs.Ytopiinnggjcbnaa.VChopped
open Go Go.Vi Go.Vp
abbrev J : V := .junk
def tab : List (TypeId × TI) := [(3, ⟨1, 8, .int .i64, some (.int .i64)⟩), (5, ⟨1, 1, .int .u8, some (.int .u8)⟩), (9, ⟨1, 16, .str, some .str⟩), (28, ⟨1, 24, .sl 9, some (.sl .str)⟩), (33, ⟨1, 24, .sl 3, some (.sl (.int .i64))⟩), (84, ⟨1, 24, .sl 5, some (.sl (.int .u8))⟩)]
theorem tabB : (tab.all fun x => tiB Try.prog (lookT tab) x.1) = true := by kernel_rfl
theorem tok : TOK Try.prog (lookT tab) := tok_of tabB
theorem mixed : Try.prog.follows .mixedOrders = true := by kernel_rfl
def tb0 : List (FuncId × XC) := []
theorem all0 : AllOk Try.prog tb0 := allOk_nil
def c0_y (y : (List Int)) : AsD [.val false (.own (.int .i64) none)] × AsY [.dat (.sl (.int .i64))] := ((y, ()), ((), ()))
def c0 : XC := ⟨[.dat (.sl (.int .i64))], [.val false (.own (.int .i64) none)], fun x => laws_toIntS_pre x.1, fun x => c0_y (laws_toIntS_f x.1)⟩
def laws_toIntS_enc (y : (List Int)) : Option R0 := some (c0.resB (c0_y y), c0.memB (c0_y y))
def laws_toIntS_J : Hds := [(0, ([1, 2, 5, 6, 7, 8, 9, 10, 11, 12, 13, 14, 15, 16, 17, 18, 19, 20, 21], []))]
noncomputable def laws_toIntS_K : Kont R0 := endK (lookT tab) Try.f27 (Kraw c0.as c0.rs)
noncomputable def laws_toIntS_B1 (k : Nat) : Code × Kont R0 := focus (lookT tab) (gamX tb0) laws_toIntS_J 0 k 0 [.r, .r, .l, .r, .b] (bodyOf Try.f27) laws_toIntS_K
noncomputable def laws_toIntS_F1 (k : Nat) (rec : List V → Mem → Option R0) : List V → Mem → Option R0 := loopF (lookT tab) (gamX tb0) laws_toIntS_J 0 k 0 (laws_toIntS_B1 k).1 (laws_toIntS_B1 k).2 rec
def laws_toIntS_st1 (a : (List Int)) (v1 : Int) (v2 : (List Int)) : List V × Mem := ([.d (.sl (.int .i64)) a, J, J, .own 0 none, .d (.int .i64) v1, J, J, J, J, J, J, J, J, J, J, J, J, J, J, J, J, J], [.row (.int .i64) v2 (some 3)])
theorem laws_toIntS_h1 (k : Nat) (a : (List Int)) (r1 : List V → Mem → Option R0) (x : Int × (List Int)) : laws_toIntS_F1 k r1 (laws_toIntS_st1 a x.1 x.2).1 (laws_toIntS_st1 a x.1 x.2).2 = laws_toIntS_t1 laws_toIntS_enc (fun v1_ v2_ => r1 (laws_toIntS_st1 a v1_ v2_).1 (laws_toIntS_st1 a v1_ v2_).2) a x.1 x.2 := by kernel_rfl
theorem laws_toIntS_k1 (k : Nat) (a : (List Int)) : ∀ n : Nat, (fun x : Int × (List Int) => iter n (laws_toIntS_F1 k) (laws_toIntS_st1 a x.1 x.2).1 (laws_toIntS_st1 a x.1 x.2).2) = fun x => laws_toIntS_l1 laws_toIntS_enc k a n x.1 x.2 :=
  iter_link (laws_toIntS_F1 k) (fun x : Int × (List Int) => (laws_toIntS_st1 a x.1 x.2)) (fun g x => laws_toIntS_t1 laws_toIntS_enc (fun v1_ v2_ => g (v1_, v2_)) a x.1 x.2) (fun n x => laws_toIntS_l1 laws_toIntS_enc k a n x.1 x.2) (fun _ => rfl) (fun _ _ => rfl) (fun r1 x => (laws_toIntS_h1 k a r1 x))
theorem laws_toIntS_r1 (k : Nat) : (fun (a_ : (List Int)) (v1_ : Int) (v2_ : (List Int)) => iter k (laws_toIntS_F1 k) (laws_toIntS_st1 a_ v1_ v2_).1 (laws_toIntS_st1 a_ v1_ v2_).2) = (fun (a_ : (List Int)) (v1_ : Int) (v2_ : (List Int)) => laws_toIntS_l1 laws_toIntS_enc k a_ k v1_ v2_) := by
  funext a_ v1_ v2_; exact congrFun (laws_toIntS_k1 k a_ k) (v1_, v2_)
theorem laws_toIntS_h0 (k : Nat) (x : AsD c0.as) : funE (lookT tab) (gamX tb0) laws_toIntS_J 0 k Try.f27 (asV c0.as x 0) (asM c0.as x 0) (Kraw c0.as c0.rs) = laws_toIntS_t0 laws_toIntS_enc (fun (a_ : (List Int)) (v1_ : Int) (v2_ : (List Int)) => iter k (laws_toIntS_F1 k) (laws_toIntS_st1 a_ v1_ v2_).1 (laws_toIntS_st1 a_ v1_ v2_).2) x.1 := by kernel_rfl
theorem laws_toIntS_link (k : Nat) (x : AsD c0.as) : funE (lookT tab) (gamX tb0) laws_toIntS_J 0 k Try.f27 (asV c0.as x 0) (asM c0.as x 0) (Kraw c0.as c0.rs) = laws_toIntS_s laws_toIntS_enc k x.1 := by
  rw [laws_toIntS_h0 k x, laws_toIntS_r1 k]; rfl
theorem ok0 : XOk Try.prog 27 c0 := x_ok (c := c0) (J := laws_toIntS_J) (k := fun x => laws_toIntS_k x.1) tok (gamX_ok all0) mixed Try.func27 rfl (by kernel_rfl) fun x h => (laws_toIntS_link _ x).trans (laws_toIntS_law laws_toIntS_enc x.1 h)
def tb1 : List (FuncId × XC) := (27, c0) :: tb0
theorem all1 : AllOk Try.prog tb1 := allOk_cons ok0 all0
def c1_y (y : Int) : AsD [.dat (.int .i64)] × AsY [.dat (.int .i64), .dat (.int .i64), .dat (.int .i64)] := ((y, ()), ((), (), (), ()))
def c1 : XC := ⟨[.dat (.int .i64), .dat (.int .i64), .dat (.int .i64)], [.dat (.int .i64)], fun _ => true, fun x => c1_y (spec_Brought_f x.1 x.2.1 x.2.2.1)⟩
def spec_Brought_enc (y : Int) : Option R0 := some (c1.resB (c1_y y), c1.memB (c1_y y))
theorem spec_Brought_link (k : Nat) (x : AsD c1.as) : funE (lookT tab) (gamX tb1) [] 0 k Try.f50 (asV c1.as x 0) (asM c1.as x 0) (Kraw c1.as c1.rs) = spec_Brought_s spec_Brought_enc x.1 x.2.1 x.2.2.1 := by kernel_rfl
theorem ok1 : XOk Try.prog 50 c1 := x_ok (c := c1) (J := []) (k := fun _ => 0) tok (gamX_ok all1) mixed Try.func50 rfl (by kernel_rfl) fun x _ => (spec_Brought_link _ x).trans (spec_Brought_law spec_Brought_enc x.1 x.2.1 x.2.2.1)
def tb2 : List (FuncId × XC) := (50, c1) :: tb1
theorem all2 : AllOk Try.prog tb2 := allOk_cons ok1 all1
def c2_y (y : (List Str)) : AsD [.dat (.sl .str)] × AsY [.dat .str, .dat (.sl (.int .i64))] := ((y, ()), ((), (), ()))
def c2 : XC := ⟨[.dat .str, .dat (.sl (.int .i64))], [.dat (.sl .str)], fun x => spec_Chopped_pre x.1 x.2.1, fun x => c2_y (spec_Chopped_f x.1 x.2.1)⟩
def spec_Chopped_enc (y : (List Str)) : Option R0 := some (c2.resB (c2_y y), c2.memB (c2_y y))
def spec_Chopped_J : Hds := [(0, ([2, 3, 4, 7, 8, 9, 10, 11, 12, 13, 14, 15, 16, 17, 18, 19, 20, 21, 22, 23, 24, 25, 26, 27, 28, 29, 30, 31, 32, 33, 34, 35, 36, 37, 38, 39, 40, 41, 42, 43, 44, 45, 46, 47], []))]
noncomputable def spec_Chopped_K : Kont R0 := endK (lookT tab) Try.f26 (Kraw c2.as c2.rs)
noncomputable def spec_Chopped_B1 (k : Nat) : Code × Kont R0 := focus (lookT tab) (gamX tb2) spec_Chopped_J 0 k 0 [.r, .r, .l, .r, .b] (bodyOf Try.f26) spec_Chopped_K
noncomputable def spec_Chopped_F1 (k : Nat) (rec : List V → Mem → Option R0) : List V → Mem → Option R0 := loopF (lookT tab) (gamX tb2) spec_Chopped_J 0 k 0 (spec_Chopped_B1 k).1 (spec_Chopped_B1 k).2 rec
def spec_Chopped_st1 (sizes : (List Int)) (v8 : Str) (v9 : Int) (v10 : (List Str)) : List V × Mem := ([.d .str v8, .d (.sl (.int .i64)) sizes, J, J, J, .own 0 none, .d (.int .i64) v9, J, J, J, J, J, J, J, J, J, J, J, J, J, J, J, J, J, J, J, J, J, J, J, J, J, J, J, J, J, J, J, J, J, J, J, J, J, J, J, J, J], [.row .str v10 (some 9)])
theorem spec_Chopped_h1 (k : Nat) (sizes : (List Int)) (r1 : List V → Mem → Option R0) (x : Str × Int × (List Str)) : spec_Chopped_F1 k r1 (spec_Chopped_st1 sizes x.1 x.2.1 x.2.2).1 (spec_Chopped_st1 sizes x.1 x.2.1 x.2.2).2 = spec_Chopped_t1 spec_Chopped_enc (fun v8_ v9_ v10_ => r1 (spec_Chopped_st1 sizes v8_ v9_ v10_).1 (spec_Chopped_st1 sizes v8_ v9_ v10_).2) sizes x.1 x.2.1 x.2.2 := by kernel_rfl
theorem spec_Chopped_k1 (k : Nat) (sizes : (List Int)) : ∀ n : Nat, (fun x : Str × Int × (List Str) => iter n (spec_Chopped_F1 k) (spec_Chopped_st1 sizes x.1 x.2.1 x.2.2).1 (spec_Chopped_st1 sizes x.1 x.2.1 x.2.2).2) = fun x => spec_Chopped_l1 spec_Chopped_enc k sizes n x.1 x.2.1 x.2.2 :=
  iter_link (spec_Chopped_F1 k) (fun x : Str × Int × (List Str) => (spec_Chopped_st1 sizes x.1 x.2.1 x.2.2)) (fun g x => spec_Chopped_t1 spec_Chopped_enc (fun v8_ v9_ v10_ => g (v8_, v9_, v10_)) sizes x.1 x.2.1 x.2.2) (fun n x => spec_Chopped_l1 spec_Chopped_enc k sizes n x.1 x.2.1 x.2.2) (fun _ => rfl) (fun _ _ => rfl) (fun r1 x => (spec_Chopped_h1 k sizes r1 x))
theorem spec_Chopped_r1 (k : Nat) : (fun (sizes_ : (List Int)) (v8_ : Str) (v9_ : Int) (v10_ : (List Str)) => iter k (spec_Chopped_F1 k) (spec_Chopped_st1 sizes_ v8_ v9_ v10_).1 (spec_Chopped_st1 sizes_ v8_ v9_ v10_).2) = (fun (sizes_ : (List Int)) (v8_ : Str) (v9_ : Int) (v10_ : (List Str)) => spec_Chopped_l1 spec_Chopped_enc k sizes_ k v8_ v9_ v10_) := by
  funext sizes_ v8_ v9_ v10_; exact congrFun (spec_Chopped_k1 k sizes_ k) (v8_, v9_, v10_)
theorem spec_Chopped_h0 (k : Nat) (x : AsD c2.as) : funE (lookT tab) (gamX tb2) spec_Chopped_J 0 k Try.f26 (asV c2.as x 0) (asM c2.as x 0) (Kraw c2.as c2.rs) = spec_Chopped_t0 spec_Chopped_enc (fun (sizes_ : (List Int)) (v8_ : Str) (v9_ : Int) (v10_ : (List Str)) => iter k (spec_Chopped_F1 k) (spec_Chopped_st1 sizes_ v8_ v9_ v10_).1 (spec_Chopped_st1 sizes_ v8_ v9_ v10_).2) x.1 x.2.1 := by kernel_rfl
theorem spec_Chopped_link (k : Nat) (x : AsD c2.as) : funE (lookT tab) (gamX tb2) spec_Chopped_J 0 k Try.f26 (asV c2.as x 0) (asM c2.as x 0) (Kraw c2.as c2.rs) = spec_Chopped_s spec_Chopped_enc k x.1 x.2.1 := by
  rw [spec_Chopped_h0 k x, spec_Chopped_r1 k]; rfl
theorem ok2 : XOk Try.prog 26 c2 := x_ok (c := c2) (J := spec_Chopped_J) (k := fun x => spec_Chopped_k x.1 x.2.1) tok (gamX_ok all2) mixed Try.func26 rfl (by kernel_rfl) fun x h => (spec_Chopped_link _ x).trans (spec_Chopped_law spec_Chopped_enc x.1 x.2.1 h)
def tb3 : List (FuncId × XC) := (26, c2) :: tb2
theorem all3 : AllOk Try.prog tb3 := allOk_cons ok2 all2
def c3_y (y : Int) : AsD [.dat (.int .i64)] × AsY [.dat (.int .i64), .dat (.int .i64), .dat (.int .i64)] := ((y, ()), ((), (), (), ()))
def c3 : XC := ⟨[.dat (.int .i64), .dat (.int .i64), .dat (.int .i64)], [.dat (.int .i64)], fun _ => true, fun x => c3_y (impl_Brought_f x.1 x.2.1 x.2.2.1)⟩
def impl_Brought_enc (y : Int) : Option R0 := some (c3.resB (c3_y y), c3.memB (c3_y y))
theorem impl_Brought_link (k : Nat) (x : AsD c3.as) : funE (lookT tab) (gamX tb3) [] 0 k Try.f51 (asV c3.as x 0) (asM c3.as x 0) (Kraw c3.as c3.rs) = impl_Brought_s impl_Brought_enc x.1 x.2.1 x.2.2.1 := by kernel_rfl
theorem ok3 : XOk Try.prog 51 c3 := x_ok (c := c3) (J := []) (k := fun _ => 0) tok (gamX_ok all3) mixed Try.func51 rfl (by kernel_rfl) fun x _ => (impl_Brought_link _ x).trans (impl_Brought_law impl_Brought_enc x.1 x.2.1 x.2.2.1)
def tb4 : List (FuncId × XC) := (51, c3) :: tb3
theorem all4 : AllOk Try.prog tb4 := allOk_cons ok3 all3
def c4_y (y : (List Str)) : AsD [.val false (.own .str none)] × AsY [.dat .str, .dat (.sl (.int .i64))] := ((y, ()), ((), (), ()))
def c4 : XC := ⟨[.dat .str, .dat (.sl (.int .i64))], [.val false (.own .str none)], fun x => impl_Chopped_pre x.1 x.2.1, fun x => c4_y (impl_Chopped_f x.1 x.2.1)⟩
def impl_Chopped_enc (y : (List Str)) : Option R0 := some (c4.resB (c4_y y), c4.memB (c4_y y))
def impl_Chopped_J : Hds := [(0, ([2, 3, 4, 6, 7, 8, 9, 10, 11, 12, 13, 14, 15, 16, 17, 18, 19, 20, 21, 22, 23, 24, 25, 26, 27, 28, 29, 30, 31, 32, 33, 34, 35, 36, 37, 38, 39, 40], []))]
noncomputable def impl_Chopped_K : Kont R0 := endK (lookT tab) Try.f28 (Kraw c4.as c4.rs)
noncomputable def impl_Chopped_B1 (k : Nat) : Code × Kont R0 := focus (lookT tab) (gamX tb4) impl_Chopped_J 0 k 0 [.r, .r, .l, .b] (bodyOf Try.f28) impl_Chopped_K
noncomputable def impl_Chopped_F1 (k : Nat) (rec : List V → Mem → Option R0) : List V → Mem → Option R0 := loopF (lookT tab) (gamX tb4) impl_Chopped_J 0 k 0 (impl_Chopped_B1 k).1 (impl_Chopped_B1 k).2 rec
def impl_Chopped_st1 (sizes : (List Int)) (v6 : Str) (v7 : (List Str)) : List V × Mem := ([.d .str v6, .d (.sl (.int .i64)) sizes, J, J, J, .own 0 none, J, J, J, J, J, J, J, J, J, J, J, J, J, J, J, J, J, J, J, J, J, J, J, J, J, J, J, J, J, J, J, J, J, J, J], [.row .str v7 (some 9)])
theorem impl_Chopped_h1 (k : Nat) (sizes : (List Int)) (r1 : List V → Mem → Option R0) (x : Str × (List Str)) : impl_Chopped_F1 k r1 (impl_Chopped_st1 sizes x.1 x.2).1 (impl_Chopped_st1 sizes x.1 x.2).2 = impl_Chopped_t1 impl_Chopped_enc (fun v6_ v7_ => r1 (impl_Chopped_st1 sizes v6_ v7_).1 (impl_Chopped_st1 sizes v6_ v7_).2) sizes x.1 x.2 := by kernel_rfl
theorem impl_Chopped_k1 (k : Nat) (sizes : (List Int)) : ∀ n : Nat, (fun x : Str × (List Str) => iter n (impl_Chopped_F1 k) (impl_Chopped_st1 sizes x.1 x.2).1 (impl_Chopped_st1 sizes x.1 x.2).2) = fun x => impl_Chopped_l1 impl_Chopped_enc k sizes n x.1 x.2 :=
  iter_link (impl_Chopped_F1 k) (fun x : Str × (List Str) => (impl_Chopped_st1 sizes x.1 x.2)) (fun g x => impl_Chopped_t1 impl_Chopped_enc (fun v6_ v7_ => g (v6_, v7_)) sizes x.1 x.2) (fun n x => impl_Chopped_l1 impl_Chopped_enc k sizes n x.1 x.2) (fun _ => rfl) (fun _ _ => rfl) (fun r1 x => (impl_Chopped_h1 k sizes r1 x))
theorem impl_Chopped_r1 (k : Nat) : (fun (sizes_ : (List Int)) (v6_ : Str) (v7_ : (List Str)) => iter k (impl_Chopped_F1 k) (impl_Chopped_st1 sizes_ v6_ v7_).1 (impl_Chopped_st1 sizes_ v6_ v7_).2) = (fun (sizes_ : (List Int)) (v6_ : Str) (v7_ : (List Str)) => impl_Chopped_l1 impl_Chopped_enc k sizes_ k v6_ v7_) := by
  funext sizes_ v6_ v7_; exact congrFun (impl_Chopped_k1 k sizes_ k) (v6_, v7_)
theorem impl_Chopped_h0 (k : Nat) (x : AsD c4.as) : funE (lookT tab) (gamX tb4) impl_Chopped_J 0 k Try.f28 (asV c4.as x 0) (asM c4.as x 0) (Kraw c4.as c4.rs) = impl_Chopped_t0 impl_Chopped_enc (fun (sizes_ : (List Int)) (v6_ : Str) (v7_ : (List Str)) => iter k (impl_Chopped_F1 k) (impl_Chopped_st1 sizes_ v6_ v7_).1 (impl_Chopped_st1 sizes_ v6_ v7_).2) x.1 x.2.1 := by kernel_rfl
theorem impl_Chopped_link (k : Nat) (x : AsD c4.as) : funE (lookT tab) (gamX tb4) impl_Chopped_J 0 k Try.f28 (asV c4.as x 0) (asM c4.as x 0) (Kraw c4.as c4.rs) = impl_Chopped_s impl_Chopped_enc k x.1 x.2.1 := by
  rw [impl_Chopped_h0 k x, impl_Chopped_r1 k]; rfl
theorem ok4 : XOk Try.prog 28 c4 := x_ok (c := c4) (J := impl_Chopped_J) (k := fun x => impl_Chopped_k x.1 x.2.1) tok (gamX_ok all4) mixed Try.func28 rfl (by kernel_rfl) fun x h => (impl_Chopped_link _ x).trans (impl_Chopped_law impl_Chopped_enc x.1 x.2.1 h)
def tb5 : List (FuncId × XC) := (28, c4) :: tb4
theorem all5 : AllOk Try.prog tb5 := allOk_cons ok4 all4
def c5_y (y : Bool) : AsD [.dat .bool] × AsY [.dat (.sl .str), .dat (.sl .str)] := ((y, ()), ((), (), ()))
def c5 : XC := ⟨[.dat (.sl .str), .dat (.sl .str)], [.dat .bool], fun x => laws_eqStringS_pre x.1 x.2.1, fun x => c5_y (laws_eqStringS_f x.1 x.2.1)⟩
def laws_eqStringS_enc (y : Bool) : Option R0 := some (c5.resB (c5_y y), c5.memB (c5_y y))
def laws_eqStringS_J : Hds := [(0, ([2, 3, 4, 6, 7, 8, 9, 10, 11, 12, 13, 14, 15, 16, 17, 18, 19, 20, 21, 22, 23, 24, 25], []))]
noncomputable def laws_eqStringS_K : Kont R0 := endK (lookT tab) Try.f23 (Kraw c5.as c5.rs)
noncomputable def laws_eqStringS_B1 (k : Nat) : Code × Kont R0 := focus (lookT tab) (gamX tb5) laws_eqStringS_J 0 k 0 [.r, .r, .l, .r, .b] (bodyOf Try.f23) laws_eqStringS_K
noncomputable def laws_eqStringS_F1 (k : Nat) (rec : List V → Mem → Option R0) : List V → Mem → Option R0 := loopF (lookT tab) (gamX tb5) laws_eqStringS_J 0 k 0 (laws_eqStringS_B1 k).1 (laws_eqStringS_B1 k).2 rec
def laws_eqStringS_st1 (a : (List Str)) (b : (List Str)) (v1 : Int) : List V × Mem := ([.d (.sl .str) a, .d (.sl .str) b, J, J, J, .d (.int .i64) v1, J, J, J, J, J, J, J, J, J, J, J, J, J, J, J, J, J, J, J, J], [])
theorem laws_eqStringS_h1 (k : Nat) (a : (List Str)) (b : (List Str)) (r1 : List V → Mem → Option R0) (x : Int) : laws_eqStringS_F1 k r1 (laws_eqStringS_st1 a b x).1 (laws_eqStringS_st1 a b x).2 = laws_eqStringS_t1 laws_eqStringS_enc (fun v1_ => r1 (laws_eqStringS_st1 a b v1_).1 (laws_eqStringS_st1 a b v1_).2) a b x := by kernel_rfl
theorem laws_eqStringS_k1 (k : Nat) (a : (List Str)) (b : (List Str)) : ∀ n : Nat, (fun x : Int => iter n (laws_eqStringS_F1 k) (laws_eqStringS_st1 a b x).1 (laws_eqStringS_st1 a b x).2) = fun x => laws_eqStringS_l1 laws_eqStringS_enc k a b n x :=
  iter_link (laws_eqStringS_F1 k) (fun x : Int => (laws_eqStringS_st1 a b x)) (fun g x => laws_eqStringS_t1 laws_eqStringS_enc (fun v1_ => g v1_) a b x) (fun n x => laws_eqStringS_l1 laws_eqStringS_enc k a b n x) (fun _ => rfl) (fun _ _ => rfl) (fun r1 x => (laws_eqStringS_h1 k a b r1 x))
theorem laws_eqStringS_r1 (k : Nat) : (fun (a_ : (List Str)) (b_ : (List Str)) (v1_ : Int) => iter k (laws_eqStringS_F1 k) (laws_eqStringS_st1 a_ b_ v1_).1 (laws_eqStringS_st1 a_ b_ v1_).2) = (fun (a_ : (List Str)) (b_ : (List Str)) (v1_ : Int) => laws_eqStringS_l1 laws_eqStringS_enc k a_ b_ k v1_) := by
  funext a_ b_ v1_; exact congrFun (laws_eqStringS_k1 k a_ b_ k) v1_
theorem laws_eqStringS_h0 (k : Nat) (x : AsD c5.as) : funE (lookT tab) (gamX tb5) laws_eqStringS_J 0 k Try.f23 (asV c5.as x 0) (asM c5.as x 0) (Kraw c5.as c5.rs) = laws_eqStringS_t0 laws_eqStringS_enc (fun (a_ : (List Str)) (b_ : (List Str)) (v1_ : Int) => iter k (laws_eqStringS_F1 k) (laws_eqStringS_st1 a_ b_ v1_).1 (laws_eqStringS_st1 a_ b_ v1_).2) x.1 x.2.1 := by kernel_rfl
theorem laws_eqStringS_link (k : Nat) (x : AsD c5.as) : funE (lookT tab) (gamX tb5) laws_eqStringS_J 0 k Try.f23 (asV c5.as x 0) (asM c5.as x 0) (Kraw c5.as c5.rs) = laws_eqStringS_s laws_eqStringS_enc k x.1 x.2.1 := by
  rw [laws_eqStringS_h0 k x, laws_eqStringS_r1 k]; rfl
theorem ok5 : XOk Try.prog 23 c5 := x_ok (c := c5) (J := laws_eqStringS_J) (k := fun x => laws_eqStringS_k x.1 x.2.1) tok (gamX_ok all5) mixed Try.func23 rfl (by kernel_rfl) fun x h => (laws_eqStringS_link _ x).trans (laws_eqStringS_law laws_eqStringS_enc x.1 x.2.1 h)
def tb6 : List (FuncId × XC) := (23, c5) :: tb5
theorem all6 : AllOk Try.prog tb6 := allOk_cons ok5 all5
def c6_y (y : Bool) : AsD [.dat .bool] × AsY [.dat (.sl (.int .i64)), .dat (.sl (.int .i64))] := ((y, ()), ((), (), ()))
def c6 : XC := ⟨[.dat (.sl (.int .i64)), .dat (.sl (.int .i64))], [.dat .bool], fun x => laws_eqIntS_pre x.1 x.2.1, fun x => c6_y (laws_eqIntS_f x.1 x.2.1)⟩
def laws_eqIntS_enc (y : Bool) : Option R0 := some (c6.resB (c6_y y), c6.memB (c6_y y))
def laws_eqIntS_J : Hds := [(0, ([2, 3, 4, 6, 7, 8, 9, 10, 11, 12, 13, 14, 15, 16, 17, 18, 19, 20, 21, 22, 23, 24, 25], []))]
noncomputable def laws_eqIntS_K : Kont R0 := endK (lookT tab) Try.f29 (Kraw c6.as c6.rs)
noncomputable def laws_eqIntS_B1 (k : Nat) : Code × Kont R0 := focus (lookT tab) (gamX tb6) laws_eqIntS_J 0 k 0 [.r, .r, .l, .r, .b] (bodyOf Try.f29) laws_eqIntS_K
noncomputable def laws_eqIntS_F1 (k : Nat) (rec : List V → Mem → Option R0) : List V → Mem → Option R0 := loopF (lookT tab) (gamX tb6) laws_eqIntS_J 0 k 0 (laws_eqIntS_B1 k).1 (laws_eqIntS_B1 k).2 rec
def laws_eqIntS_st1 (a : (List Int)) (b : (List Int)) (v1 : Int) : List V × Mem := ([.d (.sl (.int .i64)) a, .d (.sl (.int .i64)) b, J, J, J, .d (.int .i64) v1, J, J, J, J, J, J, J, J, J, J, J, J, J, J, J, J, J, J, J, J], [])
theorem laws_eqIntS_h1 (k : Nat) (a : (List Int)) (b : (List Int)) (r1 : List V → Mem → Option R0) (x : Int) : laws_eqIntS_F1 k r1 (laws_eqIntS_st1 a b x).1 (laws_eqIntS_st1 a b x).2 = laws_eqIntS_t1 laws_eqIntS_enc (fun v1_ => r1 (laws_eqIntS_st1 a b v1_).1 (laws_eqIntS_st1 a b v1_).2) a b x := by kernel_rfl
theorem laws_eqIntS_k1 (k : Nat) (a : (List Int)) (b : (List Int)) : ∀ n : Nat, (fun x : Int => iter n (laws_eqIntS_F1 k) (laws_eqIntS_st1 a b x).1 (laws_eqIntS_st1 a b x).2) = fun x => laws_eqIntS_l1 laws_eqIntS_enc k a b n x :=
  iter_link (laws_eqIntS_F1 k) (fun x : Int => (laws_eqIntS_st1 a b x)) (fun g x => laws_eqIntS_t1 laws_eqIntS_enc (fun v1_ => g v1_) a b x) (fun n x => laws_eqIntS_l1 laws_eqIntS_enc k a b n x) (fun _ => rfl) (fun _ _ => rfl) (fun r1 x => (laws_eqIntS_h1 k a b r1 x))
theorem laws_eqIntS_r1 (k : Nat) : (fun (a_ : (List Int)) (b_ : (List Int)) (v1_ : Int) => iter k (laws_eqIntS_F1 k) (laws_eqIntS_st1 a_ b_ v1_).1 (laws_eqIntS_st1 a_ b_ v1_).2) = (fun (a_ : (List Int)) (b_ : (List Int)) (v1_ : Int) => laws_eqIntS_l1 laws_eqIntS_enc k a_ b_ k v1_) := by
  funext a_ b_ v1_; exact congrFun (laws_eqIntS_k1 k a_ b_ k) v1_
theorem laws_eqIntS_h0 (k : Nat) (x : AsD c6.as) : funE (lookT tab) (gamX tb6) laws_eqIntS_J 0 k Try.f29 (asV c6.as x 0) (asM c6.as x 0) (Kraw c6.as c6.rs) = laws_eqIntS_t0 laws_eqIntS_enc (fun (a_ : (List Int)) (b_ : (List Int)) (v1_ : Int) => iter k (laws_eqIntS_F1 k) (laws_eqIntS_st1 a_ b_ v1_).1 (laws_eqIntS_st1 a_ b_ v1_).2) x.1 x.2.1 := by kernel_rfl
theorem laws_eqIntS_link (k : Nat) (x : AsD c6.as) : funE (lookT tab) (gamX tb6) laws_eqIntS_J 0 k Try.f29 (asV c6.as x 0) (asM c6.as x 0) (Kraw c6.as c6.rs) = laws_eqIntS_s laws_eqIntS_enc k x.1 x.2.1 := by
  rw [laws_eqIntS_h0 k x, laws_eqIntS_r1 k]; rfl
theorem ok6 : XOk Try.prog 29 c6 := x_ok (c := c6) (J := laws_eqIntS_J) (k := fun x => laws_eqIntS_k x.1 x.2.1) tok (gamX_ok all6) mixed Try.func29 rfl (by kernel_rfl) fun x h => (laws_eqIntS_link _ x).trans (laws_eqIntS_law laws_eqIntS_enc x.1 x.2.1 h)
def tb7 : List (FuncId × XC) := (29, c6) :: tb6
theorem all7 : AllOk Try.prog tb7 := allOk_cons ok6 all6
def c7_y (y : Int × (List Int)) : AsD [.dat (.int .i64)] × AsY [.val false (.own (.int .i64) none), .dat (.int .i64)] := ((y.1, ()), (y.2, (), ()))
def c7 : XC := ⟨[.val false (.own (.int .i64) none), .dat (.int .i64)], [.dat (.int .i64)], fun x => laws_markIntS_pre x.1 x.2.1, fun x => c7_y (laws_markIntS_f x.1 x.2.1)⟩
def laws_markIntS_enc (y : Int × (List Int)) : Option R0 := some (c7.resB (c7_y y), c7.memB (c7_y y))
def laws_markIntS_J : Hds := [(0, ([2, 3, 4, 6, 7, 8, 9, 10, 11, 12, 13, 14, 15, 16, 17, 18], []))]
noncomputable def laws_markIntS_K : Kont R0 := endK (lookT tab) Try.f30 (Kraw c7.as c7.rs)
noncomputable def laws_markIntS_B1 (k : Nat) : Code × Kont R0 := focus (lookT tab) (gamX tb7) laws_markIntS_J 1 k 0 [.r, .l, .r, .b] (bodyOf Try.f30) laws_markIntS_K
noncomputable def laws_markIntS_F1 (k : Nat) (rec : List V → Mem → Option R0) : List V → Mem → Option R0 := loopF (lookT tab) (gamX tb7) laws_markIntS_J 1 k 0 (laws_markIntS_B1 k).1 (laws_markIntS_B1 k).2 rec
def laws_markIntS_st1 (v1 : Int) (v2 : Int) (v3 : (List Int)) : List V × Mem := ([.own 0 none, .d (.int .i64) v1, J, J, J, .d (.int .i64) v2, J, J, J, J, J, J, J, J, J, J, J, J, J], [.row (.int .i64) v3 none])
theorem laws_markIntS_h1 (k : Nat) (r1 : List V → Mem → Option R0) (x : Int × Int × (List Int)) : laws_markIntS_F1 k r1 (laws_markIntS_st1 x.1 x.2.1 x.2.2).1 (laws_markIntS_st1 x.1 x.2.1 x.2.2).2 = laws_markIntS_t1 laws_markIntS_enc (fun v1_ v2_ v3_ => r1 (laws_markIntS_st1 v1_ v2_ v3_).1 (laws_markIntS_st1 v1_ v2_ v3_).2) x.1 x.2.1 x.2.2 := by kernel_rfl
theorem laws_markIntS_k1 (k : Nat) : ∀ n : Nat, (fun x : Int × Int × (List Int) => iter n (laws_markIntS_F1 k) (laws_markIntS_st1 x.1 x.2.1 x.2.2).1 (laws_markIntS_st1 x.1 x.2.1 x.2.2).2) = fun x => laws_markIntS_l1 laws_markIntS_enc k n x.1 x.2.1 x.2.2 :=
  iter_link (laws_markIntS_F1 k) (fun x : Int × Int × (List Int) => (laws_markIntS_st1 x.1 x.2.1 x.2.2)) (fun g x => laws_markIntS_t1 laws_markIntS_enc (fun v1_ v2_ v3_ => g (v1_, v2_, v3_)) x.1 x.2.1 x.2.2) (fun n x => laws_markIntS_l1 laws_markIntS_enc k n x.1 x.2.1 x.2.2) (fun _ => rfl) (fun _ _ => rfl) (fun r1 x => (laws_markIntS_h1 k r1 x))
theorem laws_markIntS_r1 (k : Nat) : (fun (v1_ : Int) (v2_ : Int) (v3_ : (List Int)) => iter k (laws_markIntS_F1 k) (laws_markIntS_st1 v1_ v2_ v3_).1 (laws_markIntS_st1 v1_ v2_ v3_).2) = (fun (v1_ : Int) (v2_ : Int) (v3_ : (List Int)) => laws_markIntS_l1 laws_markIntS_enc k k v1_ v2_ v3_) := by
  funext v1_ v2_ v3_; exact congrFun (laws_markIntS_k1 k k) (v1_, v2_, v3_)
theorem laws_markIntS_h0 (k : Nat) (x : AsD c7.as) : funE (lookT tab) (gamX tb7) laws_markIntS_J 1 k Try.f30 (asV c7.as x 0) (asM c7.as x 0) (Kraw c7.as c7.rs) = laws_markIntS_t0 laws_markIntS_enc (fun (v1_ : Int) (v2_ : Int) (v3_ : (List Int)) => iter k (laws_markIntS_F1 k) (laws_markIntS_st1 v1_ v2_ v3_).1 (laws_markIntS_st1 v1_ v2_ v3_).2) x.1 x.2.1 := by kernel_rfl
theorem laws_markIntS_link (k : Nat) (x : AsD c7.as) : funE (lookT tab) (gamX tb7) laws_markIntS_J 1 k Try.f30 (asV c7.as x 0) (asM c7.as x 0) (Kraw c7.as c7.rs) = laws_markIntS_s laws_markIntS_enc k x.1 x.2.1 := by
  rw [laws_markIntS_h0 k x, laws_markIntS_r1 k]; rfl
theorem ok7 : XOk Try.prog 30 c7 := x_ok (c := c7) (J := laws_markIntS_J) (k := fun x => laws_markIntS_k x.1 x.2.1) tok (gamX_ok all7) mixed Try.func30 rfl (by kernel_rfl) fun x h => (laws_markIntS_link _ x).trans (laws_markIntS_law laws_markIntS_enc x.1 x.2.1 h)
def tb8 : List (FuncId × XC) := (30, c7) :: tb7
theorem all8 : AllOk Try.prog tb8 := allOk_cons ok7 all7
def c8_y (y : Str) : AsD [.dat .str] × AsY [.dat (.int .i64)] := ((y, ()), ((), ()))
def c8 : XC := ⟨[.dat (.int .i64)], [.dat .str], fun x => laws_markText_pre x.1, fun x => c8_y (laws_markText_f x.1)⟩
def laws_markText_enc (y : Str) : Option R0 := some (c8.resB (c8_y y), c8.memB (c8_y y))
def laws_markText_J : Hds := [(0, ([1, 2, 4, 5, 6, 7, 8, 9, 10, 11, 12, 13, 14, 15, 16, 17, 18, 19], []))]
noncomputable def laws_markText_K : Kont R0 := endK (lookT tab) Try.f49 (Kraw c8.as c8.rs)
noncomputable def laws_markText_B1 (k : Nat) : Code × Kont R0 := focus (lookT tab) (gamX tb8) laws_markText_J 0 k 0 [.r, .r, .r, .l, .b] (bodyOf Try.f49) laws_markText_K
noncomputable def laws_markText_F1 (k : Nat) (rec : List V → Mem → Option R0) : List V → Mem → Option R0 := loopF (lookT tab) (gamX tb8) laws_markText_J 0 k 0 (laws_markText_B1 k).1 (laws_markText_B1 k).2 rec
def laws_markText_st1 (v1 : Int) (v2 : Str) : List V × Mem := ([.d (.int .i64) v1, J, J, .d .str v2, J, J, J, J, J, J, J, J, J, J, J, J, J, J, J, J], [])
theorem laws_markText_h1 (k : Nat) (r1 : List V → Mem → Option R0) (x : Int × Str) : laws_markText_F1 k r1 (laws_markText_st1 x.1 x.2).1 (laws_markText_st1 x.1 x.2).2 = laws_markText_t1 laws_markText_enc (fun v1_ v2_ => r1 (laws_markText_st1 v1_ v2_).1 (laws_markText_st1 v1_ v2_).2) x.1 x.2 := by kernel_rfl
theorem laws_markText_k1 (k : Nat) : ∀ n : Nat, (fun x : Int × Str => iter n (laws_markText_F1 k) (laws_markText_st1 x.1 x.2).1 (laws_markText_st1 x.1 x.2).2) = fun x => laws_markText_l1 laws_markText_enc k n x.1 x.2 :=
  iter_link (laws_markText_F1 k) (fun x : Int × Str => (laws_markText_st1 x.1 x.2)) (fun g x => laws_markText_t1 laws_markText_enc (fun v1_ v2_ => g (v1_, v2_)) x.1 x.2) (fun n x => laws_markText_l1 laws_markText_enc k n x.1 x.2) (fun _ => rfl) (fun _ _ => rfl) (fun r1 x => (laws_markText_h1 k r1 x))
theorem laws_markText_r1 (k : Nat) : (fun (v1_ : Int) (v2_ : Str) => iter k (laws_markText_F1 k) (laws_markText_st1 v1_ v2_).1 (laws_markText_st1 v1_ v2_).2) = (fun (v1_ : Int) (v2_ : Str) => laws_markText_l1 laws_markText_enc k k v1_ v2_) := by
  funext v1_ v2_; exact congrFun (laws_markText_k1 k k) (v1_, v2_)
theorem laws_markText_h0 (k : Nat) (x : AsD c8.as) : funE (lookT tab) (gamX tb8) laws_markText_J 0 k Try.f49 (asV c8.as x 0) (asM c8.as x 0) (Kraw c8.as c8.rs) = laws_markText_t0 laws_markText_enc (fun (v1_ : Int) (v2_ : Str) => iter k (laws_markText_F1 k) (laws_markText_st1 v1_ v2_).1 (laws_markText_st1 v1_ v2_).2) x.1 := by kernel_rfl
theorem laws_markText_link (k : Nat) (x : AsD c8.as) : funE (lookT tab) (gamX tb8) laws_markText_J 0 k Try.f49 (asV c8.as x 0) (asM c8.as x 0) (Kraw c8.as c8.rs) = laws_markText_s laws_markText_enc k x.1 := by
  rw [laws_markText_h0 k x, laws_markText_r1 k]; rfl
theorem ok8 : XOk Try.prog 49 c8 := x_ok (c := c8) (J := laws_markText_J) (k := fun x => laws_markText_k x.1) tok (gamX_ok all8) mixed Try.func49 rfl (by kernel_rfl) fun x h => (laws_markText_link _ x).trans (laws_markText_law laws_markText_enc x.1 h)
def tb9 : List (FuncId × XC) := (49, c8) :: tb8
theorem all9 : AllOk Try.prog tb9 := allOk_cons ok8 all8
def c9_y (y : Int × (List Str)) : AsD [.dat (.int .i64)] × AsY [.val false (.own .str none), .dat (.int .i64)] := ((y.1, ()), (y.2, (), ()))
def c9 : XC := ⟨[.val false (.own .str none), .dat (.int .i64)], [.dat (.int .i64)], fun x => laws_markStringS_pre x.1 x.2.1, fun x => c9_y (laws_markStringS_f x.1 x.2.1)⟩
def laws_markStringS_enc (y : Int × (List Str)) : Option R0 := some (c9.resB (c9_y y), c9.memB (c9_y y))
def laws_markStringS_J : Hds := [(0, ([2, 3, 4, 6, 7, 8, 9, 10, 11, 12, 13, 14, 15, 16, 17, 18, 19], []))]
noncomputable def laws_markStringS_K : Kont R0 := endK (lookT tab) Try.f24 (Kraw c9.as c9.rs)
noncomputable def laws_markStringS_B1 (k : Nat) : Code × Kont R0 := focus (lookT tab) (gamX tb9) laws_markStringS_J 1 k 0 [.r, .l, .r, .b] (bodyOf Try.f24) laws_markStringS_K
noncomputable def laws_markStringS_F1 (k : Nat) (rec : List V → Mem → Option R0) : List V → Mem → Option R0 := loopF (lookT tab) (gamX tb9) laws_markStringS_J 1 k 0 (laws_markStringS_B1 k).1 (laws_markStringS_B1 k).2 rec
def laws_markStringS_st1 (v2 : Int) (v3 : Int) (v4 : (List Str)) : List V × Mem := ([.own 0 none, .d (.int .i64) v2, J, J, J, .d (.int .i64) v3, J, J, J, J, J, J, J, J, J, J, J, J, J, J], [.row .str v4 none])
theorem laws_markStringS_h1 (k : Nat) (r1 : List V → Mem → Option R0) (x : Int × Int × (List Str)) : laws_markStringS_F1 k r1 (laws_markStringS_st1 x.1 x.2.1 x.2.2).1 (laws_markStringS_st1 x.1 x.2.1 x.2.2).2 = laws_markStringS_t1 laws_markStringS_enc (fun v2_ v3_ v4_ => r1 (laws_markStringS_st1 v2_ v3_ v4_).1 (laws_markStringS_st1 v2_ v3_ v4_).2) x.1 x.2.1 x.2.2 := by kernel_rfl
theorem laws_markStringS_k1 (k : Nat) : ∀ n : Nat, (fun x : Int × Int × (List Str) => iter n (laws_markStringS_F1 k) (laws_markStringS_st1 x.1 x.2.1 x.2.2).1 (laws_markStringS_st1 x.1 x.2.1 x.2.2).2) = fun x => laws_markStringS_l1 laws_markStringS_enc k n x.1 x.2.1 x.2.2 :=
  iter_link (laws_markStringS_F1 k) (fun x : Int × Int × (List Str) => (laws_markStringS_st1 x.1 x.2.1 x.2.2)) (fun g x => laws_markStringS_t1 laws_markStringS_enc (fun v2_ v3_ v4_ => g (v2_, v3_, v4_)) x.1 x.2.1 x.2.2) (fun n x => laws_markStringS_l1 laws_markStringS_enc k n x.1 x.2.1 x.2.2) (fun _ => rfl) (fun _ _ => rfl) (fun r1 x => (laws_markStringS_h1 k r1 x))
theorem laws_markStringS_r1 (k : Nat) : (fun (v2_ : Int) (v3_ : Int) (v4_ : (List Str)) => iter k (laws_markStringS_F1 k) (laws_markStringS_st1 v2_ v3_ v4_).1 (laws_markStringS_st1 v2_ v3_ v4_).2) = (fun (v2_ : Int) (v3_ : Int) (v4_ : (List Str)) => laws_markStringS_l1 laws_markStringS_enc k k v2_ v3_ v4_) := by
  funext v2_ v3_ v4_; exact congrFun (laws_markStringS_k1 k k) (v2_, v3_, v4_)
theorem laws_markStringS_h0 (k : Nat) (x : AsD c9.as) : funE (lookT tab) (gamX tb9) laws_markStringS_J 1 k Try.f24 (asV c9.as x 0) (asM c9.as x 0) (Kraw c9.as c9.rs) = laws_markStringS_t0 laws_markStringS_enc (fun (v2_ : Int) (v3_ : Int) (v4_ : (List Str)) => iter k (laws_markStringS_F1 k) (laws_markStringS_st1 v2_ v3_ v4_).1 (laws_markStringS_st1 v2_ v3_ v4_).2) x.1 x.2.1 := by kernel_rfl
theorem laws_markStringS_link (k : Nat) (x : AsD c9.as) : funE (lookT tab) (gamX tb9) laws_markStringS_J 1 k Try.f24 (asV c9.as x 0) (asM c9.as x 0) (Kraw c9.as c9.rs) = laws_markStringS_s laws_markStringS_enc k x.1 x.2.1 := by
  rw [laws_markStringS_h0 k x, laws_markStringS_r1 k]; rfl
theorem ok9 : XOk Try.prog 24 c9 := x_ok (c := c9) (J := laws_markStringS_J) (k := fun x => laws_markStringS_k x.1 x.2.1) tok (gamX_ok all9) mixed Try.func24 rfl (by kernel_rfl) fun x h => (laws_markStringS_link _ x).trans (laws_markStringS_law laws_markStringS_enc x.1 x.2.1 h)
def tb10 : List (FuncId × XC) := (24, c9) :: tb9
theorem all10 : AllOk Try.prog tb10 := allOk_cons ok9 all9
def c10_y (y : Int) : AsD [.dat (.int .i64)] × AsY [.dat (.sl .str), .dat (.int .i64)] := ((y, ()), ((), (), ()))
def c10 : XC := ⟨[.dat (.sl .str), .dat (.int .i64)], [.dat (.int .i64)], fun x => laws_heldStringS_pre x.1 x.2.1, fun x => c10_y (laws_heldStringS_f x.1 x.2.1)⟩
def laws_heldStringS_enc (y : Int) : Option R0 := some (c10.resB (c10_y y), c10.memB (c10_y y))
def laws_heldStringS_J : Hds := [(0, ([2, 3, 4, 6, 7, 8, 9, 10, 11, 12, 13, 14, 15, 16, 17, 18, 19, 20, 21], []))]
noncomputable def laws_heldStringS_K : Kont R0 := endK (lookT tab) Try.f25 (Kraw c10.as c10.rs)
noncomputable def laws_heldStringS_B1 (k : Nat) : Code × Kont R0 := focus (lookT tab) (gamX tb10) laws_heldStringS_J 0 k 0 [.r, .l, .r, .b] (bodyOf Try.f25) laws_heldStringS_K
noncomputable def laws_heldStringS_F1 (k : Nat) (rec : List V → Mem → Option R0) : List V → Mem → Option R0 := loopF (lookT tab) (gamX tb10) laws_heldStringS_J 0 k 0 (laws_heldStringS_B1 k).1 (laws_heldStringS_B1 k).2 rec
def laws_heldStringS_st1 (a : (List Str)) (v2 : Int) (v3 : Int) : List V × Mem := ([.d (.sl .str) a, .d (.int .i64) v2, J, J, J, .d (.int .i64) v3, J, J, J, J, J, J, J, J, J, J, J, J, J, J, J, J], [])
theorem laws_heldStringS_h1 (k : Nat) (a : (List Str)) (r1 : List V → Mem → Option R0) (x : Int × Int) : laws_heldStringS_F1 k r1 (laws_heldStringS_st1 a x.1 x.2).1 (laws_heldStringS_st1 a x.1 x.2).2 = laws_heldStringS_t1 laws_heldStringS_enc (fun v2_ v3_ => r1 (laws_heldStringS_st1 a v2_ v3_).1 (laws_heldStringS_st1 a v2_ v3_).2) a x.1 x.2 := by kernel_rfl
theorem laws_heldStringS_k1 (k : Nat) (a : (List Str)) : ∀ n : Nat, (fun x : Int × Int => iter n (laws_heldStringS_F1 k) (laws_heldStringS_st1 a x.1 x.2).1 (laws_heldStringS_st1 a x.1 x.2).2) = fun x => laws_heldStringS_l1 laws_heldStringS_enc k a n x.1 x.2 :=
  iter_link (laws_heldStringS_F1 k) (fun x : Int × Int => (laws_heldStringS_st1 a x.1 x.2)) (fun g x => laws_heldStringS_t1 laws_heldStringS_enc (fun v2_ v3_ => g (v2_, v3_)) a x.1 x.2) (fun n x => laws_heldStringS_l1 laws_heldStringS_enc k a n x.1 x.2) (fun _ => rfl) (fun _ _ => rfl) (fun r1 x => (laws_heldStringS_h1 k a r1 x))
theorem laws_heldStringS_r1 (k : Nat) : (fun (a_ : (List Str)) (v2_ : Int) (v3_ : Int) => iter k (laws_heldStringS_F1 k) (laws_heldStringS_st1 a_ v2_ v3_).1 (laws_heldStringS_st1 a_ v2_ v3_).2) = (fun (a_ : (List Str)) (v2_ : Int) (v3_ : Int) => laws_heldStringS_l1 laws_heldStringS_enc k a_ k v2_ v3_) := by
  funext a_ v2_ v3_; exact congrFun (laws_heldStringS_k1 k a_ k) (v2_, v3_)
theorem laws_heldStringS_h0 (k : Nat) (x : AsD c10.as) : funE (lookT tab) (gamX tb10) laws_heldStringS_J 0 k Try.f25 (asV c10.as x 0) (asM c10.as x 0) (Kraw c10.as c10.rs) = laws_heldStringS_t0 laws_heldStringS_enc (fun (a_ : (List Str)) (v2_ : Int) (v3_ : Int) => iter k (laws_heldStringS_F1 k) (laws_heldStringS_st1 a_ v2_ v3_).1 (laws_heldStringS_st1 a_ v2_ v3_).2) x.1 x.2.1 := by kernel_rfl
theorem laws_heldStringS_link (k : Nat) (x : AsD c10.as) : funE (lookT tab) (gamX tb10) laws_heldStringS_J 0 k Try.f25 (asV c10.as x 0) (asM c10.as x 0) (Kraw c10.as c10.rs) = laws_heldStringS_s laws_heldStringS_enc k x.1 x.2.1 := by
  rw [laws_heldStringS_h0 k x, laws_heldStringS_r1 k]; rfl
theorem ok10 : XOk Try.prog 25 c10 := x_ok (c := c10) (J := laws_heldStringS_J) (k := fun x => laws_heldStringS_k x.1 x.2.1) tok (gamX_ok all10) mixed Try.func25 rfl (by kernel_rfl) fun x h => (laws_heldStringS_link _ x).trans (laws_heldStringS_law laws_heldStringS_enc x.1 x.2.1 h)
def tb11 : List (FuncId × XC) := (25, c10) :: tb10
theorem all11 : AllOk Try.prog tb11 := allOk_cons ok10 all10
def c11_y (y : Bool) : AsD [.dat .bool] × AsY [.dat .str, .dat (.sl (.int .i64))] := ((y, ()), ((), (), ()))
def c11 : XC := ⟨[.dat .str, .dat (.sl (.int .i64))], [.dat .bool], fun x => laws_FnExactChopped_pre x.1 x.2.1, fun x => c11_y (laws_FnExactChopped_f x.1 x.2.1)⟩
def laws_FnExactChopped_enc (y : Bool) : Option R0 := some (c11.resB (c11_y y), c11.memB (c11_y y))
theorem laws_FnExactChopped_link (k : Nat) (x : AsD c11.as) : funE (lookT tab) (gamX tb11) [] 0 k Try.f8 (asV c11.as x 0) (asM c11.as x 0) (Kraw c11.as c11.rs) = laws_FnExactChopped_s laws_FnExactChopped_enc x.1 x.2.1 := by kernel_rfl
theorem ok11 : XOk Try.prog 8 c11 := x_ok (c := c11) (J := []) (k := fun _ => 0) tok (gamX_ok all11) mixed Try.func8 rfl (by kernel_rfl) fun x h => (laws_FnExactChopped_link _ x).trans (laws_FnExactChopped_law laws_FnExactChopped_enc x.1 x.2.1 h)
def tb12 : List (FuncId × XC) := (8, c11) :: tb11
theorem all12 : AllOk Try.prog tb12 := allOk_cons ok11 all11
end Go.Proofs.Ytopiinnggjcbnaa.VChopped
