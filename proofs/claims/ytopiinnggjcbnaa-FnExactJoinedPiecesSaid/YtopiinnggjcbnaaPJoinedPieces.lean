/- FnExactJoinedPieces, the plain functions: what the Go functions that the law reaches compute, and that it is what is told here. By program and by hand. -/
import Derived.Test.YtopiinnggjcbnaaVP
set_option linter.unusedVariables false
namespace Go.Vp
open Go Go.Vi Wt
def laws_eqStringS_f (x y : (List Str)) : Bool := decide (x = y)
def laws_eqStringS_pre (x y : (List Str)) : Bool := decide (w x ≤ 4611686018427387904)
def laws_eqStringS_k (x y : (List Str)) : Nat := x.length + 1
def laws_szStringS_f (x : (List Str)) (left : Int) : Int := szF x left
def laws_szStringS_pre (x : (List Str)) (left : Int) : Bool := fit (.sl .str) x && szR left
def laws_szStringS_k (x : (List Str)) (left : Int) : Nat := x.length + 1
def laws_toStringS_f (x : (List Str)) : (List Str) := x
def laws_toStringS_pre (x : (List Str)) : Bool := decide (w x ≤ 1048576)
def laws_toStringS_k (x : (List Str)) : Nat := x.length + 1
def spec_JoinedPieces_f (l : List Str) : Str := l.flatten
def spec_JoinedPieces_pre (l : List Str) : Bool := decide (w l ≤ 1048576)
def spec_JoinedPieces_k (l : List Str) : Nat := l.length + 1
theorem flatten_w : ∀ l : List Str, l.flatten.length + l.length = w l
  | [] => rfl
  | x :: l => by
    have := flatten_w l
    rw [w_list] at this ⊢
    rw [List.flatten_cons, List.length_append, List.length_cons, List.map_cons, List.sum_cons, w_str]
    omega
theorem toStr_bytesI (s : Str) : toStr (bytesI s) = s := by
  unfold toStr bytesI
  rw [List.map_map]
  have : ((fun n : Int => UInt8.ofNat n.toNat) ∘ fun b : UInt8 => (b.toNat : Int)) = id := by
    funext b
    simp
  rw [this, List.map_id]
theorem bytesI_append (a b : Str) : bytesI (a ++ b) = bytesI a ++ bytesI b := List.map_append
theorem bytesI_length (a : Str) : (bytesI a).length = a.length := List.length_map _
def strings_Join_f (l : List Str) (s : Str) : Str := List.intercalate s l
def strings_Join_pre (l : List Str) (s : Str) : Bool := decide (l.length ≤ 140737488355328 ∧ (strings_Join_f l s).length ≤ 140737488355328)
theorem intercalate_none : ∀ l : List Str, List.intercalate [] l = l.flatten
  | [] => rfl
  | [x] => by simp [List.intercalate]
  | x :: y :: l => by
    have := intercalate_none (y :: l)
    simp only [List.intercalate, List.intersperse, List.flatten_cons] at this ⊢
    rw [this]; rfl
def impl_JoinedPieces_f (l : List Str) : Str := l.flatten
def impl_JoinedPieces_pre (l : List Str) : Bool := decide (w l ≤ 1048576)
def laws_FnExactJoinedPieces_f (_ : List Str) : Bool := true
def laws_FnExactJoinedPieces_pre (a : List Str) : Bool := fit (.sl .str) a
def laws_eqStringS_t1 {A : Type} (ret : Bool → Option A) (rec1 : Int → Option A) (a : (List Str)) (b : (List Str)) (v1 : Int) : Option A :=
  bif (decide (v1 < (a.length : Int))) then (chk (decide (0 ≤ v1) && decide (v1 < (a.length : Int))) (chk (decide (0 ≤ v1) && decide (v1 < (b.length : Int))) (bif (!((a.getD v1.toNat ([] : Str)) == (b.getD v1.toNat ([] : Str)))) then (ret false) else (rec1 (IntKind.wrap .i64 (v1 + (1 : Int))))))) else (ret true)
def laws_eqStringS_l1 {A : Type} (ret : Bool → Option A) (k : Nat) (a : (List Str)) (b : (List Str)) : Nat → Int → Option A
  | 0 => fun _ => none
  | n + 1 => fun v1 => laws_eqStringS_t1 ret (laws_eqStringS_l1 ret k a b n) a b v1
def laws_eqStringS_t0 {A : Type} (ret : Bool → Option A) (run1 : (List Str) → (List Str) → Int → Option A) (a : (List Str)) (b : (List Str)) : Option A :=
  bif ((a.length : Int) != (b.length : Int)) then (ret false) else (run1 a b (0 : Int))
def laws_eqStringS_s {A : Type} (ret : Bool → Option A) (k : Nat) (a : (List Str)) (b : (List Str)) : Option A := laws_eqStringS_t0 ret (fun a_ b_ v1_ => laws_eqStringS_l1 ret k a_ b_ k v1_) a b
def laws_szStringS_t1 {A : Type} (ret : Int → Option A) (rec1 : Int → Int → Option A) (a : (List Str)) (v1 : Int) (v2 : Int) : Option A :=
  bif (decide (v2 < (a.length : Int))) then (chk (decide (0 ≤ v2) && decide (v2 < (a.length : Int))) (bif (decide ((IntKind.wrap .i64 (v1 - ((a.getD v2.toNat ([] : Str)).length : Int))) < (0 : Int))) then (ret (-1 : Int)) else (rec1 (IntKind.wrap .i64 (v1 - ((a.getD v2.toNat ([] : Str)).length : Int))) (IntKind.wrap .i64 (v2 + (1 : Int)))))) else (ret v1)
def laws_szStringS_l1 {A : Type} (ret : Int → Option A) (k : Nat) (a : (List Str)) : Nat → Int → Int → Option A
  | 0 => fun _ _ => none
  | n + 1 => fun v1 v2 => laws_szStringS_t1 ret (laws_szStringS_l1 ret k a n) a v1 v2
def laws_szStringS_t0 {A : Type} (ret : Int → Option A) (run1 : (List Str) → Int → Int → Option A) (a : (List Str)) (left : Int) : Option A :=
  bif (decide ((IntKind.wrap .i64 (left - (a.length : Int))) < (0 : Int))) then (ret (-1 : Int)) else (run1 a (IntKind.wrap .i64 (left - (a.length : Int))) (0 : Int))
def laws_szStringS_s {A : Type} (ret : Int → Option A) (k : Nat) (a : (List Str)) (left : Int) : Option A := laws_szStringS_t0 ret (fun a_ v1_ v2_ => laws_szStringS_l1 ret k a_ k v1_ v2_) a left
def laws_toStringS_t1 {A : Type} (ret : (List Str) → Option A) (rec1 : Int → (List Str) → Option A) (a : (List Str)) (v1 : Int) (v2 : (List Str)) : Option A :=
  bif (decide (v1 < (a.length : Int))) then (chk (decide (0 ≤ v1) && decide (v1 < (a.length : Int))) (chk (decide (0 ≤ v1) && decide (v1 < (v2.length : Int))) (rec1 (IntKind.wrap .i64 (v1 + (1 : Int))) (v2.set v1.toNat (a.getD v1.toNat ([] : Str)))))) else (ret v2)
def laws_toStringS_l1 {A : Type} (ret : (List Str) → Option A) (k : Nat) (a : (List Str)) : Nat → Int → (List Str) → Option A
  | 0 => fun _ _ => none
  | n + 1 => fun v1 v2 => laws_toStringS_t1 ret (laws_toStringS_l1 ret k a n) a v1 v2
def laws_toStringS_t0 {A : Type} (ret : (List Str) → Option A) (run1 : (List Str) → Int → (List Str) → Option A) (a : (List Str)) : Option A :=
  chk (decide (0 ≤ (a.length : Int)) && decide ((a.length : Int) ≤ (a.length : Int)) && decide ((a.length : Int) * 16 ≤ maxBytes)) (run1 a (0 : Int) (List.replicate (a.length : Int).toNat ([] : Str)))
def laws_toStringS_s {A : Type} (ret : (List Str) → Option A) (k : Nat) (a : (List Str)) : Option A := laws_toStringS_t0 ret (fun a_ v1_ v2_ => laws_toStringS_l1 ret k a_ k v1_ v2_) a
def spec_JoinedPieces_t1 {A : Type} (ret : Str → Option A) (rec1 : Int → (List Int) → Option A) (a_list : (List Str)) (v1 : Int) (v2 : (List Int)) : Option A :=
  bif (decide (v1 < (a_list.length : Int))) then (chk (decide (0 ≤ v1) && decide (v1 < (a_list.length : Int))) (chk (decide ((v2.length + (bytesI (a_list.getD v1.toNat ([] : Str))).length) * 1 ≤ maxBytes)) (rec1 (IntKind.wrap .i64 (v1 + (1 : Int))) (v2 ++ (bytesI (a_list.getD v1.toNat ([] : Str))))))) else (ret (toStr v2))
def spec_JoinedPieces_l1 {A : Type} (ret : Str → Option A) (k : Nat) (a_list : (List Str)) : Nat → Int → (List Int) → Option A
  | 0 => fun _ _ => none
  | n + 1 => fun v1 v2 => spec_JoinedPieces_t1 ret (spec_JoinedPieces_l1 ret k a_list n) a_list v1 v2
def spec_JoinedPieces_t0 {A : Type} (ret : Str → Option A) (run1 : (List Str) → Int → (List Int) → Option A) (a_list : (List Str)) : Option A :=
  run1 a_list (0 : Int) ([] : (List Int))
def spec_JoinedPieces_s {A : Type} (ret : Str → Option A) (k : Nat) (a_list : (List Str)) : Option A := spec_JoinedPieces_t0 ret (fun a_list_ v1_ v2_ => spec_JoinedPieces_l1 ret k a_list_ k v1_ v2_) a_list
def impl_JoinedPieces_s {A : Type} (ret : Str → Option A) (a_list : (List Str)) : Option A :=
  chk (strings_Join_pre a_list ([] : Str)) ((let y1 : Str := strings_Join_f a_list ([] : Str); ret y1))
def laws_FnExactJoinedPieces_s {A : Type} (ret : Bool → Option A) (aList : (List Str)) : Option A :=
  chk (laws_szStringS_pre aList (1048576 : Int)) (bif (decide ((laws_szStringS_f aList (1048576 : Int)) < (0 : Int))) then (ret true) else (chk (laws_toStringS_pre aList) ((let y1 : (List Str) := laws_toStringS_f aList; chk (spec_JoinedPieces_pre y1) ((let y2 : Str := spec_JoinedPieces_f y1; chk (laws_toStringS_pre aList) ((let y3 : (List Str) := laws_toStringS_f aList; chk (impl_JoinedPieces_pre y3) ((let y4 : Str := impl_JoinedPieces_f y3; bif (!(y4 == y2)) then (ret false) else (chk (laws_toStringS_pre aList) ((let y5 : (List Str) := laws_toStringS_f aList; chk (laws_eqStringS_pre y3 y5) (bif (!(laws_eqStringS_f y3 y5)) then (ret false) else (ret true)))))))))))))))
theorem laws_eqStringS_law {A : Type} (ret : Bool → Option A) (x y) (h : laws_eqStringS_pre x y = true) : laws_eqStringS_s ret (laws_eqStringS_k x y) x y = ret (laws_eqStringS_f x y) := by
  simp only [laws_eqStringS_pre, decide_eq_true_eq] at h
  have hx := len_le_w x
  unfold laws_eqStringS_s laws_eqStringS_t0 laws_eqStringS_f
  by_cases hl : x.length = y.length
  · rw [show ((x.length : Int) != (y.length : Int)) = false by simp [hl], cond_false]
    refine eq_loop0 (L := laws_eqStringS_l1 ret (laws_eqStringS_k x y) x y) hl (fun n i hi => ?_) (fun n => ?_) (by unfold laws_eqStringS_k; omega)
    · have hy : i < y.length := by omega
      show laws_eqStringS_t1 _ _ _ _ _ = _
      unfold laws_eqStringS_t1
      rw [bif_pos (by omega), chk_pos (inb_pos hi), chk_pos (inb_pos hy), getD_at hi, getD_at hy]
      rw [w64_id (by omega) (by omega)]
      grind
    · show laws_eqStringS_t1 _ _ _ _ _ = _
      unfold laws_eqStringS_t1
      rw [bif_neg (by omega)]
  · rw [show ((x.length : Int) != (y.length : Int)) = true by simp; omega, cond_true]
    congr 1
    simp only [Bool.false_eq, decide_eq_false_iff_not]
    exact fun e => hl (by rw [e])
theorem laws_szStringS_law {A : Type} (ret : Int → Option A) (x l) (h : laws_szStringS_pre x l = true) : laws_szStringS_s ret (laws_szStringS_k x l) x l = ret (laws_szStringS_f x l) := by
  simp only [laws_szStringS_pre, Bool.and_eq_true, szR_iff, fit_sl, decide_eq_true_eq, List.all_eq_true] at h
  obtain ⟨⟨hx, he⟩, hl0, hl1⟩ := h
  unfold laws_szStringS_s laws_szStringS_t0 laws_szStringS_f
  rw [w64_id (by omega) (by omega)]
  refine sz_loop0 (L := laws_szStringS_l1 ret (laws_szStringS_k x l) x) (fun n i v hi hv => ?_) (fun n v => ?_) hl0 hl1 (by unfold laws_szStringS_k; omega)
  · rw [szR_iff] at hv
    have hm := he x[i] (List.getElem_mem _)
    show laws_szStringS_t1 _ _ _ _ _ = _
    unfold laws_szStringS_t1
    rw [bif_pos (by omega), chk_pos (inb_pos hi), getD_at hi]
    rw [fit_str, decide_eq_true_eq] at hm
    rw [w64_id (n := v - _) (by omega) (by omega), w64_id (n := (i : Int) + 1) (by omega) (by omega), w_str]
    simp only [bif_ite]
    grind
  · show laws_szStringS_t1 _ _ _ _ _ = _
    unfold laws_szStringS_t1
    rw [bif_neg (by omega)]
theorem laws_toStringS_law {A : Type} (ret : _ → Option A) (x) (h : laws_toStringS_pre x = true) : laws_toStringS_s ret (laws_toStringS_k x) x = ret (laws_toStringS_f x) := by
  simp only [laws_toStringS_pre, decide_eq_true_eq] at h
  have hx := len_le_w x
  unfold laws_toStringS_s laws_toStringS_t0 laws_toStringS_f
  rw [chk_pos (mk_ok (by omega) (by omega)), Int.toNat_natCast]
  refine (map_loop0 (ret := ret) (L := laws_toStringS_l1 ret (laws_toStringS_k x) x) (a := x) (fun z => z) _ (fun n i ys hi hy => ?_) (fun n ys => ?_) (by unfold laws_toStringS_k; omega)).trans (congrArg ret (List.map_id' x))
  · show laws_toStringS_t1 _ _ _ _ _ = _
    unfold laws_toStringS_t1
    rw [bif_pos (by omega), chk_pos (inb_pos hi), getD_at hi]
    simp only [Int.toNat_natCast]
    rw [chk_pos (inb_pos (by omega)), w64_id (by omega) (by omega)]
    rfl
  · show laws_toStringS_t1 _ _ _ _ _ = _
    unfold laws_toStringS_t1
    rw [bif_neg (by omega)]
theorem spec_JoinedPieces_go {A : Type} (ret : Str → Option A) (k : Nat) (l : List Str) : ∀ (n i : Nat) (p : Str), i ≤ l.length → l.length - i < n → p.length + (l.drop i).flatten.length ≤ 1048576 → l.length ≤ 1048576 →
    spec_JoinedPieces_l1 ret k l n (i : Int) (bytesI p) = ret (p ++ (l.drop i).flatten)
  | 0, i, p, hi, hn, _, _ => by omega
  | n + 1, i, p, hi, hn, hp, hl => by
    show spec_JoinedPieces_t1 _ _ _ _ _ = _
    unfold spec_JoinedPieces_t1
    by_cases h : i < l.length
    · rw [List.drop_eq_getElem_cons h, List.flatten_cons] at hp ⊢
      rw [List.length_append] at hp
      rw [bif_pos (by omega), chk_pos (inb_pos h), getD_at h, chk_pos (decide_eq_true (by rw [bytesI_length, bytesI_length]; unfold maxBytes; omega)), w64_id (by omega) (by omega), ← bytesI_append]
      rw [← List.append_assoc]
      exact spec_JoinedPieces_go ret k l n (i + 1) (p ++ l[i]) h (by omega) (by rw [List.length_append]; omega) hl
    · have : i = l.length := by omega
      subst this
      rw [bif_neg (by omega), toStr_bytesI, List.drop_length]
      simp
theorem spec_JoinedPieces_law {A : Type} (ret : Str → Option A) (l) (h : spec_JoinedPieces_pre l = true) : spec_JoinedPieces_s ret (spec_JoinedPieces_k l) l = ret (spec_JoinedPieces_f l) := by
  simp only [spec_JoinedPieces_pre, decide_eq_true_eq] at h
  have := flatten_w l
  unfold spec_JoinedPieces_s spec_JoinedPieces_t0 spec_JoinedPieces_f
  exact spec_JoinedPieces_go ret _ l _ 0 [] (Nat.zero_le _) (by unfold spec_JoinedPieces_k; omega) (by simp only [List.length_nil, List.drop_zero]; omega) (by omega)
theorem impl_JoinedPieces_law {A : Type} (ret : Str → Option A) (l) (h : impl_JoinedPieces_pre l = true) : impl_JoinedPieces_s ret l = ret (impl_JoinedPieces_f l) := by
  simp only [impl_JoinedPieces_pre, decide_eq_true_eq] at h
  have hw := flatten_w l
  have p1 : strings_Join_pre l [] = true := decide_eq_true (by unfold strings_Join_f; rw [intercalate_none]; omega)
  unfold impl_JoinedPieces_s impl_JoinedPieces_f
  rw [chk_pos p1]
  unfold strings_Join_f
  rw [intercalate_none]
theorem laws_FnExactJoinedPieces_law {A : Type} (ret : Bool → Option A) (a) (h : laws_FnExactJoinedPieces_pre a = true) : laws_FnExactJoinedPieces_s ret a = ret (laws_FnExactJoinedPieces_f a) := by
  simp only [laws_FnExactJoinedPieces_pre] at h
  have p0 : laws_szStringS_pre a 1048576 = true := by simp only [laws_szStringS_pre, Bool.and_eq_true]; exact ⟨h, rfl⟩
  unfold laws_FnExactJoinedPieces_s laws_FnExactJoinedPieces_f
  rw [chk_pos p0]
  by_cases ha : (w a : Int) ≤ 1048576
  · rw [show laws_szStringS_f a 1048576 = _ from szF_pos ha, bif_neg (by omega)]
    have hla := len_le_w a
    have p1 : laws_toStringS_pre a = true := decide_eq_true (by omega)
    have p2 : spec_JoinedPieces_pre a = true := decide_eq_true (by omega)
    have p3 : impl_JoinedPieces_pre a = true := decide_eq_true (by omega)
    have p5 : laws_eqStringS_pre a a = true := decide_eq_true (by omega)
    simp only [laws_toStringS_f, spec_JoinedPieces_f, impl_JoinedPieces_f, laws_eqStringS_f, p1, p2, p3, p5, chk_tt, decide_true, beq_self_eq_true, Bool.not_true, cond_false]
  · rw [show laws_szStringS_f a 1048576 = _ from szF_neg ha, bif_pos (by omega)]

end Go.Vp
