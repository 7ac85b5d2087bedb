/- FnExactEarly, the plain functions: what the Go functions that the law reaches compute, and that it is what is told here. By program and by hand. -/
import Derived.Test.YtopiinnggjcbnaaVP
set_option linter.unusedVariables false
namespace Go.Vp
open Go Go.Vi Wt
def brought (n a b : Int) : Int := if b < a ∨ n < a then a else if n > b then b else n
theorem brought_in {n a b : Int} (h : a ≤ b) : a ≤ brought n a b ∧ brought n a b ≤ b := by unfold brought; split <;> (try split) <;> omega
def spec_Brought_f (n a b : Int) : Int := brought n a b
def laws_eqStringS_f (x y : (List Str)) : Bool := decide (x = y)
def laws_eqStringS_pre (x y : (List Str)) : Bool := decide (w x ≤ 4611686018427387904)
def laws_eqStringS_k (x y : (List Str)) : Nat := x.length + 1
def mDig : Nat → Int → Str → Str
  | 0, _, acc => acc
  | n + 1, v, acc => if v > 0 then mDig n (v.tdiv 10) (toStr [IntKind.wrap .u8 (IntKind.wrap .i64 (48 + v.tmod 10))] ++ acc) else acc
def laws_markText_f (k : Int) : Str := if k ≤ 0 then [109, 48] else [109] ++ mDig 19 k []
def laws_markText_pre (k : Int) : Bool := decide (k ≤ 2305843009213693952)
def laws_markText_k (_ : Int) : Nat := 20
theorem toStr_one (n : Int) : (toStr [n]).length = 1 := rfl
def laws_markStringS_f (a : List Str) (k : Int) : Int × List Str := markL (fun _ k => (k + 1, laws_markText_f k)) a k
def laws_markStringS_pre (a : List Str) (k : Int) : Bool := decide (0 ≤ k) && decide (k ≤ 1099511627776) && decide (a.length ≤ 1099511627776)
def laws_markStringS_k (a : List Str) (_ : Int) : Nat := a.length + 1
def heldStr (x : Str) (k : Int) : Option Int := if x = laws_markText_f k then some (k + 1) else none
def laws_heldStringS_f (a : List Str) (k : Int) : Int := heldL heldStr a k
def laws_heldStringS_pre (a : List Str) (k : Int) : Bool := decide (0 ≤ k) && decide (k ≤ 1099511627776) && decide (a.length ≤ 1099511627776)
def laws_heldStringS_k (a : List Str) (_ : Int) : Nat := a.length + 1
def laws_szStringS_f (x : (List Str)) (left : Int) : Int := szF x left
def laws_szStringS_pre (x : (List Str)) (left : Int) : Bool := fit (.sl .str) x && szR left
def laws_szStringS_k (x : (List Str)) (left : Int) : Nat := x.length + 1
def laws_toStringS_f (x : (List Str)) : (List Str) := x
def laws_toStringS_pre (x : (List Str)) : Bool := decide (w x ≤ 1048576)
def laws_toStringS_k (x : (List Str)) : Nat := x.length + 1
def spec_JoinedPieces_f (l : List Str) : Str := l.flatten
def spec_JoinedPieces_pre (l : List Str) : Bool := decide (w l ≤ 1048576)
def spec_JoinedPieces_k (l : List Str) : Nat := l.length + 1
theorem flatten_w : ∀ l : List Str, l.flatten.length + l.length = w l
  | [] => rfl
  | x :: l => by
    have := flatten_w l
    rw [w_list] at this ⊢
    rw [List.flatten_cons, List.length_append, List.length_cons, List.map_cons, List.sum_cons, w_str]
    omega
theorem toStr_bytesI (s : Str) : toStr (bytesI s) = s := by
  unfold toStr bytesI
  rw [List.map_map]
  have : ((fun n : Int => UInt8.ofNat n.toNat) ∘ fun b : UInt8 => (b.toNat : Int)) = id := by
    funext b
    simp
  rw [this, List.map_id]
theorem bytesI_append (a b : Str) : bytesI (a ++ b) = bytesI a ++ bytesI b := List.map_append
theorem bytesI_length (a : Str) : (bytesI a).length = a.length := List.length_map _
def earlyE : List Str → Nat → List Str
  | [], _ => []
  | x :: xs, l => if l = 0 then [] else x.take l :: earlyE xs (l - x.length)
def early (l : List Str) (n : Int) : List Str := earlyE l (min n.toNat l.flatten.length)
def spec_Early_f (l : List Str) (n : Int) : List Str := early l n
def spec_Early_pre (l : List Str) (n : Int) : Bool := decide (w l ≤ 1048576) && fit (.int .i64) n
def spec_Early_k (l : List Str) (_ : Int) : Nat := l.length + 1
theorem earlyE_w : ∀ (l : List Str) (n : Nat), w (earlyE l n) ≤ w l
  | [], n => Nat.le_refl _
  | x :: l, n => by
    unfold earlyE
    split
    · exact Nat.zero_le _
    · have := earlyE_w l (n - x.length)
      rw [w_list] at this ⊢
      rw [w_list] at this ⊢
      simp only [List.length_cons, List.map_cons, List.sum_cons, w_str, List.length_take]
      omega
theorem earlyE_zero (l : List Str) : earlyE l 0 = [] := by cases l <;> rfl
def impl_Early_f (l : List Str) (n : Int) : List Str := early l n
def impl_Early_pre (l : List Str) (n : Int) : Bool := decide (w l ≤ 1048576) && fit (.int .i64) n
def impl_Early_k (l : List Str) (_ : Int) : Nat := l.length + 1
def strip : List Str → List Str
  | [] => []
  | x :: xs => if strip xs = [] ∧ x = [] then [] else x :: strip xs
theorem strip_snoc (y : Str) : ∀ xs : List Str, strip (xs ++ [y]) = if y = [] then strip xs else xs ++ [y]
  | [] => by simp [strip]
  | x :: xs => by
    rw [List.cons_append]
    unfold strip
    rw [strip_snoc y xs]
    by_cases h : y = []
    · simp [h]
    · simp [h]
theorem earlyE_ne {l : List Str} {n : Nat} (hl : l ≠ []) (hn : n ≠ 0) : earlyE l n ≠ [] := by
  cases l with
  | nil => exact (hl rfl).elim
  | cons x l => simp [earlyE, hn]
theorem strip_early : ∀ (l : List Str) (n : Nat), strip (earlyE l n) = earlyE l (min n l.flatten.length)
  | [], n => rfl
  | x :: l, n => by
    by_cases h0 : n = 0
    · subst h0
      rw [Nat.zero_min, earlyE_zero]; rfl
    · have ih := strip_early l (n - x.length)
      rw [List.flatten_cons, List.length_append]
      rw [show earlyE (x :: l) n = x.take n :: earlyE l (n - x.length) by simp [earlyE, h0]]
      unfold strip
      rw [ih]
      by_cases hx : n ≤ x.length
      · rw [show n - x.length = 0 by omega, Nat.zero_min, earlyE_zero, show min n (x.length + l.flatten.length) = n by omega]
        rw [show earlyE (x :: l) n = x.take n :: earlyE l (n - x.length) by simp [earlyE, h0], show n - x.length = 0 by omega, earlyE_zero]
        rw [if_neg]
        rintro ⟨_, h⟩
        have : (x.take n).length = 0 := by rw [h]; rfl
        rw [List.length_take] at this
        omega
      · rw [List.take_of_length_le (by omega)]
        by_cases ht : l.flatten.length = 0
        · rw [ht, Nat.min_zero, earlyE_zero, Nat.add_zero, show min n x.length = x.length by omega]
          by_cases hx0 : x = []
          · subst hx0; simp [earlyE]
          · have : x.length ≠ 0 := fun e => hx0 (List.length_eq_zero_iff.1 e)
            rw [show earlyE (x :: l) x.length = x.take x.length :: earlyE l (x.length - x.length) by simp [earlyE, this], Nat.sub_self, earlyE_zero, List.take_length]
            simp [hx0]
        · have hl : l ≠ [] := by rintro rfl; exact ht rfl
          have hne := earlyE_ne hl (n := min (n - x.length) l.flatten.length) (by omega)
          rw [if_neg (fun h => hne h.1)]
          rw [show earlyE (x :: l) (min n (x.length + l.flatten.length)) = x.take (min n (x.length + l.flatten.length)) :: earlyE l (min n (x.length + l.flatten.length) - x.length) by
            have : min n (x.length + l.flatten.length) ≠ 0 := by omega
            simp only [earlyE, if_neg this]]
          rw [List.take_of_length_le (by omega), show min n (x.length + l.flatten.length) - x.length = min (n - x.length) l.flatten.length by omega]
def laws_FnExactEarly_f (_ : List Str) (_ : Int) : Bool := true
def laws_FnExactEarly_pre (a : List Str) (b : Int) : Bool := fit (.sl .str) a && fit (.int .i64) b
def spec_Brought_s {A : Type} (ret : Int → Option A) (n : Int) (least : Int) (most : Int) : Option A :=
  bif (decide (most < least)) then (ret least) else (bif (decide (n < least)) then (ret least) else (bif (decide (n > most)) then (ret most) else (ret n)))
def laws_eqStringS_t1 {A : Type} (ret : Bool → Option A) (rec1 : Int → Option A) (a : (List Str)) (b : (List Str)) (v1 : Int) : Option A :=
  bif (decide (v1 < (a.length : Int))) then (chk (decide (0 ≤ v1) && decide (v1 < (a.length : Int))) (chk (decide (0 ≤ v1) && decide (v1 < (b.length : Int))) (bif (!((a.getD v1.toNat ([] : Str)) == (b.getD v1.toNat ([] : Str)))) then (ret false) else (rec1 (IntKind.wrap .i64 (v1 + (1 : Int))))))) else (ret true)
def laws_eqStringS_l1 {A : Type} (ret : Bool → Option A) (k : Nat) (a : (List Str)) (b : (List Str)) : Nat → Int → Option A
  | 0 => fun _ => none
  | n + 1 => fun v1 => laws_eqStringS_t1 ret (laws_eqStringS_l1 ret k a b n) a b v1
def laws_eqStringS_t0 {A : Type} (ret : Bool → Option A) (run1 : (List Str) → (List Str) → Int → Option A) (a : (List Str)) (b : (List Str)) : Option A :=
  bif ((a.length : Int) != (b.length : Int)) then (ret false) else (run1 a b (0 : Int))
def laws_eqStringS_s {A : Type} (ret : Bool → Option A) (k : Nat) (a : (List Str)) (b : (List Str)) : Option A := laws_eqStringS_t0 ret (fun a_ b_ v1_ => laws_eqStringS_l1 ret k a_ b_ k v1_) a b
def laws_markText_t1 {A : Type} (ret : Str → Option A) (rec1 : Int → Str → Option A) (v1 : Int) (v2 : Str) : Option A :=
  bif (decide (v1 > (0 : Int))) then (chk (decide ((toStr ([(IntKind.wrap .u8 (IntKind.wrap .i64 ((48 : Int) + (v1.tmod (10 : Int)))))] : (List Int))).length + v2.length ≤ 9223372036854775807)) (rec1 (IntKind.wrap .i64 (v1.tdiv (10 : Int))) ((toStr ([(IntKind.wrap .u8 (IntKind.wrap .i64 ((48 : Int) + (v1.tmod (10 : Int)))))] : (List Int))) ++ v2))) else (chk (decide (([109] : Str).length + v2.length ≤ 9223372036854775807)) (ret (([109] : Str) ++ v2)))
def laws_markText_l1 {A : Type} (ret : Str → Option A) (k : Nat) : Nat → Int → Str → Option A
  | 0 => fun _ _ => none
  | n + 1 => fun v1 v2 => laws_markText_t1 ret (laws_markText_l1 ret k n) v1 v2
def laws_markText_t0 {A : Type} (ret : Str → Option A) (run1 : Int → Str → Option A) (a_k : Int) : Option A :=
  bif (decide (a_k ≤ (0 : Int))) then (ret ([109, 48] : Str)) else (run1 a_k ([] : Str))
def laws_markText_s {A : Type} (ret : Str → Option A) (k : Nat) (a_k : Int) : Option A := laws_markText_t0 ret (fun v1_ v2_ => laws_markText_l1 ret k k v1_ v2_) a_k
def laws_markStringS_t1 {A : Type} (ret : Int × (List Str) → Option A) (rec1 : Int → Int → (List Str) → Option A) (v2 : Int) (v3 : Int) (v4 : (List Str)) : Option A :=
  bif (decide (v3 < (v4.length : Int))) then (chk (laws_markText_pre v2) ((let y9 : Str := laws_markText_f v2; chk (decide (0 ≤ v3) && decide (v3 < (v4.length : Int))) (rec1 (IntKind.wrap .i64 (v2 + (1 : Int))) (IntKind.wrap .i64 (v3 + (1 : Int))) (v4.set v3.toNat y9))))) else (ret (v2, v4))
def laws_markStringS_l1 {A : Type} (ret : Int × (List Str) → Option A) (k : Nat) : Nat → Int → Int → (List Str) → Option A
  | 0 => fun _ _ _ => none
  | n + 1 => fun v2 v3 v4 => laws_markStringS_t1 ret (laws_markStringS_l1 ret k n) v2 v3 v4
def laws_markStringS_t0 {A : Type} (ret : Int × (List Str) → Option A) (run1 : Int → Int → (List Str) → Option A) (a : (List Str)) (a_k : Int) : Option A :=
  run1 a_k (0 : Int) a
def laws_markStringS_s {A : Type} (ret : Int × (List Str) → Option A) (k : Nat) (a : (List Str)) (a_k : Int) : Option A := laws_markStringS_t0 ret (fun v2_ v3_ v4_ => laws_markStringS_l1 ret k k v2_ v3_ v4_) a a_k
def laws_heldStringS_t1 {A : Type} (ret : Int → Option A) (rec1 : Int → Int → Option A) (a : (List Str)) (v2 : Int) (v3 : Int) : Option A :=
  bif (decide (v3 < (a.length : Int))) then (chk (decide (0 ≤ v3) && decide (v3 < (a.length : Int))) (chk (laws_markText_pre v2) ((let y7 : Str := laws_markText_f v2; bif (!((a.getD v3.toNat ([] : Str)) == y7)) then (ret (-1 : Int)) else (rec1 (IntKind.wrap .i64 (v2 + (1 : Int))) (IntKind.wrap .i64 (v3 + (1 : Int)))))))) else (ret v2)
def laws_heldStringS_l1 {A : Type} (ret : Int → Option A) (k : Nat) (a : (List Str)) : Nat → Int → Int → Option A
  | 0 => fun _ _ => none
  | n + 1 => fun v2 v3 => laws_heldStringS_t1 ret (laws_heldStringS_l1 ret k a n) a v2 v3
def laws_heldStringS_t0 {A : Type} (ret : Int → Option A) (run1 : (List Str) → Int → Int → Option A) (a : (List Str)) (a_k : Int) : Option A :=
  run1 a a_k (0 : Int)
def laws_heldStringS_s {A : Type} (ret : Int → Option A) (k : Nat) (a : (List Str)) (a_k : Int) : Option A := laws_heldStringS_t0 ret (fun a_ v2_ v3_ => laws_heldStringS_l1 ret k a_ k v2_ v3_) a a_k
def laws_szStringS_t1 {A : Type} (ret : Int → Option A) (rec1 : Int → Int → Option A) (a : (List Str)) (v1 : Int) (v2 : Int) : Option A :=
  bif (decide (v2 < (a.length : Int))) then (chk (decide (0 ≤ v2) && decide (v2 < (a.length : Int))) (bif (decide ((IntKind.wrap .i64 (v1 - ((a.getD v2.toNat ([] : Str)).length : Int))) < (0 : Int))) then (ret (-1 : Int)) else (rec1 (IntKind.wrap .i64 (v1 - ((a.getD v2.toNat ([] : Str)).length : Int))) (IntKind.wrap .i64 (v2 + (1 : Int)))))) else (ret v1)
def laws_szStringS_l1 {A : Type} (ret : Int → Option A) (k : Nat) (a : (List Str)) : Nat → Int → Int → Option A
  | 0 => fun _ _ => none
  | n + 1 => fun v1 v2 => laws_szStringS_t1 ret (laws_szStringS_l1 ret k a n) a v1 v2
def laws_szStringS_t0 {A : Type} (ret : Int → Option A) (run1 : (List Str) → Int → Int → Option A) (a : (List Str)) (left : Int) : Option A :=
  bif (decide ((IntKind.wrap .i64 (left - (a.length : Int))) < (0 : Int))) then (ret (-1 : Int)) else (run1 a (IntKind.wrap .i64 (left - (a.length : Int))) (0 : Int))
def laws_szStringS_s {A : Type} (ret : Int → Option A) (k : Nat) (a : (List Str)) (left : Int) : Option A := laws_szStringS_t0 ret (fun a_ v1_ v2_ => laws_szStringS_l1 ret k a_ k v1_ v2_) a left
def laws_toStringS_t1 {A : Type} (ret : (List Str) → Option A) (rec1 : Int → (List Str) → Option A) (a : (List Str)) (v1 : Int) (v2 : (List Str)) : Option A :=
  bif (decide (v1 < (a.length : Int))) then (chk (decide (0 ≤ v1) && decide (v1 < (a.length : Int))) (chk (decide (0 ≤ v1) && decide (v1 < (v2.length : Int))) (rec1 (IntKind.wrap .i64 (v1 + (1 : Int))) (v2.set v1.toNat (a.getD v1.toNat ([] : Str)))))) else (ret v2)
def laws_toStringS_l1 {A : Type} (ret : (List Str) → Option A) (k : Nat) (a : (List Str)) : Nat → Int → (List Str) → Option A
  | 0 => fun _ _ => none
  | n + 1 => fun v1 v2 => laws_toStringS_t1 ret (laws_toStringS_l1 ret k a n) a v1 v2
def laws_toStringS_t0 {A : Type} (ret : (List Str) → Option A) (run1 : (List Str) → Int → (List Str) → Option A) (a : (List Str)) : Option A :=
  chk (decide (0 ≤ (a.length : Int)) && decide ((a.length : Int) ≤ (a.length : Int)) && decide ((a.length : Int) * 16 ≤ maxBytes)) (run1 a (0 : Int) (List.replicate (a.length : Int).toNat ([] : Str)))
def laws_toStringS_s {A : Type} (ret : (List Str) → Option A) (k : Nat) (a : (List Str)) : Option A := laws_toStringS_t0 ret (fun a_ v1_ v2_ => laws_toStringS_l1 ret k a_ k v1_ v2_) a
def spec_JoinedPieces_t1 {A : Type} (ret : Str → Option A) (rec1 : Int → (List Int) → Option A) (a_list : (List Str)) (v1 : Int) (v2 : (List Int)) : Option A :=
  bif (decide (v1 < (a_list.length : Int))) then (chk (decide (0 ≤ v1) && decide (v1 < (a_list.length : Int))) (chk (decide ((v2.length + (bytesI (a_list.getD v1.toNat ([] : Str))).length) * 1 ≤ maxBytes)) (rec1 (IntKind.wrap .i64 (v1 + (1 : Int))) (v2 ++ (bytesI (a_list.getD v1.toNat ([] : Str))))))) else (ret (toStr v2))
def spec_JoinedPieces_l1 {A : Type} (ret : Str → Option A) (k : Nat) (a_list : (List Str)) : Nat → Int → (List Int) → Option A
  | 0 => fun _ _ => none
  | n + 1 => fun v1 v2 => spec_JoinedPieces_t1 ret (spec_JoinedPieces_l1 ret k a_list n) a_list v1 v2
def spec_JoinedPieces_t0 {A : Type} (ret : Str → Option A) (run1 : (List Str) → Int → (List Int) → Option A) (a_list : (List Str)) : Option A :=
  run1 a_list (0 : Int) ([] : (List Int))
def spec_JoinedPieces_s {A : Type} (ret : Str → Option A) (k : Nat) (a_list : (List Str)) : Option A := spec_JoinedPieces_t0 ret (fun a_list_ v1_ v2_ => spec_JoinedPieces_l1 ret k a_list_ k v1_ v2_) a_list
def spec_Early_j3 {A : Type} (ret : (List Str) → Option A) (v4 : Int) (v5 : Int) (v6 : (List Str)) (rec1 : (Int → Int → (List Str) → Option A)) (v12 : Str) : Option A :=
  chk (decide ((v6.length + ([v12] : (List Str)).length) * 16 ≤ maxBytes)) (rec1 (IntKind.wrap .i64 (v4 - (v12.length : Int))) (IntKind.wrap .i64 (v5 + (1 : Int))) (v6 ++ ([v12] : (List Str))))
def spec_Early_t1 {A : Type} (ret : (List Str) → Option A) (rec1 : Int → Int → (List Str) → Option A) (a_list : (List Str)) (v4 : Int) (v5 : Int) (v6 : (List Str)) : Option A :=
  bif (decide (v5 < (a_list.length : Int))) then (bif (decide (v4 > (0 : Int))) then (chk (decide (0 ≤ v5) && decide (v5 < (a_list.length : Int))) (bif (decide (((a_list.getD v5.toNat ([] : Str)).length : Int) > v4)) then (chk (decide (0 ≤ (0 : Int)) && decide ((0 : Int) ≤ v4) && decide (v4 ≤ ((a_list.getD v5.toNat ([] : Str)).length : Int))) (spec_Early_j3 ret v4 v5 v6 rec1 (((a_list.getD v5.toNat ([] : Str)).take v4.toNat).drop (0 : Int).toNat))) else (spec_Early_j3 ret v4 v5 v6 rec1 (a_list.getD v5.toNat ([] : Str))))) else (ret v6)) else (ret v6)
def spec_Early_l1 {A : Type} (ret : (List Str) → Option A) (k : Nat) (a_list : (List Str)) : Nat → Int → Int → (List Str) → Option A
  | 0 => fun _ _ _ => none
  | n + 1 => fun v4 v5 v6 => spec_Early_t1 ret (spec_Early_l1 ret k a_list n) a_list v4 v5 v6
def spec_Early_t0 {A : Type} (ret : (List Str) → Option A) (run1 : (List Str) → Int → Int → (List Str) → Option A) (a_list : (List Str)) (n : Int) : Option A :=
  chk (spec_JoinedPieces_pre a_list) ((let y1 : Str := spec_JoinedPieces_f a_list; run1 a_list (spec_Brought_f n (0 : Int) (y1.length : Int)) (0 : Int) ([] : (List Str))))
def spec_Early_s {A : Type} (ret : (List Str) → Option A) (k : Nat) (a_list : (List Str)) (n : Int) : Option A := spec_Early_t0 ret (fun a_list_ v4_ v5_ v6_ => spec_Early_l1 ret k a_list_ k v4_ v5_ v6_) a_list n
def impl_Early_t2 {A : Type} (ret : (List Str) → Option A) (rec2 : (List Str) → Option A) (v7 : (List Str)) : Option A :=
  bif (decide ((v7.length : Int) > (0 : Int))) then (chk (decide (0 ≤ (IntKind.wrap .i64 ((v7.length : Int) - (1 : Int)))) && decide ((IntKind.wrap .i64 ((v7.length : Int) - (1 : Int))) < (v7.length : Int))) (bif ((v7.getD (IntKind.wrap .i64 ((v7.length : Int) - (1 : Int))).toNat ([] : Str)) == ([] : Str)) then (chk (decide (0 ≤ (IntKind.wrap .i64 ((v7.length : Int) - (1 : Int)))) && decide ((IntKind.wrap .i64 ((v7.length : Int) - (1 : Int))) ≤ (v7.length : Int))) (rec2 (v7.take (IntKind.wrap .i64 ((v7.length : Int) - (1 : Int))).toNat))) else (ret v7))) else (ret v7)
def impl_Early_l2 {A : Type} (ret : (List Str) → Option A) (k : Nat) : Nat → (List Str) → Option A
  | 0 => fun _ => none
  | n + 1 => fun v7 => impl_Early_t2 ret (impl_Early_l2 ret k n) v7
def impl_Early_t1 {A : Type} (ret : (List Str) → Option A) (run2 : (List Str) → Option A) (rec1 : Int → Int → (List Str) → Option A) (a_list : (List Str)) (v1 : Int) (v2 : Int) (v3 : (List Str)) : Option A :=
  bif (decide (v2 < (a_list.length : Int))) then (chk (decide (0 ≤ v2) && decide (v2 < (a_list.length : Int))) (bif (decide (v1 ≤ (0 : Int))) then (run2 v3) else (chk (decide (0 ≤ (0 : Int)) && decide ((0 : Int) ≤ (mnI v1 ((a_list.getD v2.toNat ([] : Str)).length : Int))) && decide ((mnI v1 ((a_list.getD v2.toNat ([] : Str)).length : Int)) ≤ ((a_list.getD v2.toNat ([] : Str)).length : Int))) (chk (decide ((v3.length + ([(((a_list.getD v2.toNat ([] : Str)).take (mnI v1 ((a_list.getD v2.toNat ([] : Str)).length : Int)).toNat).drop (0 : Int).toNat)] : (List Str)).length) * 16 ≤ maxBytes)) (rec1 (IntKind.wrap .i64 (v1 - ((((a_list.getD v2.toNat ([] : Str)).take (mnI v1 ((a_list.getD v2.toNat ([] : Str)).length : Int)).toNat).drop (0 : Int).toNat).length : Int))) (IntKind.wrap .i64 (v2 + (1 : Int))) (v3 ++ ([(((a_list.getD v2.toNat ([] : Str)).take (mnI v1 ((a_list.getD v2.toNat ([] : Str)).length : Int)).toNat).drop (0 : Int).toNat)] : (List Str)))))))) else (run2 v3)
def impl_Early_l1 {A : Type} (ret : (List Str) → Option A) (k : Nat) (a_list : (List Str)) : Nat → Int → Int → (List Str) → Option A
  | 0 => fun _ _ _ => none
  | n + 1 => fun v1 v2 v3 => impl_Early_t1 ret (fun v7_ => impl_Early_l2 ret k k v7_) (impl_Early_l1 ret k a_list n) a_list v1 v2 v3
def impl_Early_t0 {A : Type} (ret : (List Str) → Option A) (run1 : (List Str) → Int → Int → (List Str) → Option A) (a_list : (List Str)) (n : Int) : Option A :=
  run1 a_list n (0 : Int) ([] : (List Str))
def impl_Early_s {A : Type} (ret : (List Str) → Option A) (k : Nat) (a_list : (List Str)) (n : Int) : Option A := impl_Early_t0 ret (fun a_list_ v1_ v2_ v3_ => impl_Early_l1 ret k a_list_ k v1_ v2_ v3_) a_list n
def laws_FnExactEarly_s {A : Type} (ret : Bool → Option A) (a0 : (List Str)) (a1 : Int) : Option A :=
  chk (laws_szStringS_pre a0 (1048576 : Int)) (bif (decide ((laws_szStringS_f a0 (1048576 : Int)) < (0 : Int))) then (ret true) else (chk (laws_toStringS_pre a0) ((let y1 : (List Str) := laws_toStringS_f a0; chk (spec_Early_pre y1 a1) ((let y2 : (List Str) := spec_Early_f y1 a1; chk (laws_toStringS_pre a0) ((let y3 : (List Str) := laws_toStringS_f a0; chk (impl_Early_pre y3 a1) ((let y4 : (List Str) := impl_Early_f y3 a1; chk (laws_eqStringS_pre y4 y2) (bif (!(laws_eqStringS_f y4 y2)) then (ret false) else (chk (laws_toStringS_pre a0) ((let y5 : (List Str) := laws_toStringS_f a0; chk (laws_eqStringS_pre y3 y5) (bif (!(laws_eqStringS_f y3 y5)) then (ret false) else (chk (laws_markStringS_pre y3 (1 : Int)) ((let y6 : Int × (List Str) := laws_markStringS_f y3 (1 : Int); bif (decide (y6.1 < (0 : Int))) then (ret false) else (chk (laws_eqStringS_pre y4 y2) (bif (!(laws_eqStringS_f y4 y2)) then (ret false) else (chk (laws_markStringS_pre y4 (1 : Int)) ((let y7 : Int × (List Str) := laws_markStringS_f y4 (1 : Int); chk (laws_heldStringS_pre y7.2 (1 : Int)) (bif (decide ((laws_heldStringS_f y7.2 (1 : Int)) < (0 : Int))) then (ret false) else (bif ((laws_heldStringS_f y7.2 (1 : Int)) != y7.1) then (ret false) else (chk (laws_toStringS_pre a0) ((let y8 : (List Str) := laws_toStringS_f a0; chk (impl_Early_pre y8 a1) ((let y9 : (List Str) := impl_Early_f y8 a1; chk (laws_eqStringS_pre y9 y2) (bif (!(laws_eqStringS_f y9 y2)) then (ret false) else (chk (laws_heldStringS_pre y7.2 (1 : Int)) (bif (decide ((laws_heldStringS_f y7.2 (1 : Int)) < (0 : Int))) then (ret false) else (bif ((laws_heldStringS_f y7.2 (1 : Int)) != y7.1) then (ret false) else (ret true)))))))))))))))))))))))))))))))))))
theorem spec_Brought_law {A : Type} (ret : Int → Option A) (n a b) : spec_Brought_s ret n a b = ret (spec_Brought_f n a b) := by
  unfold spec_Brought_s spec_Brought_f brought
  grind
theorem laws_eqStringS_law {A : Type} (ret : Bool → Option A) (x y) (h : laws_eqStringS_pre x y = true) : laws_eqStringS_s ret (laws_eqStringS_k x y) x y = ret (laws_eqStringS_f x y) := by
  simp only [laws_eqStringS_pre, decide_eq_true_eq] at h
  have hx := len_le_w x
  unfold laws_eqStringS_s laws_eqStringS_t0 laws_eqStringS_f
  by_cases hl : x.length = y.length
  · rw [show ((x.length : Int) != (y.length : Int)) = false by simp [hl], cond_false]
    refine eq_loop0 (L := laws_eqStringS_l1 ret (laws_eqStringS_k x y) x y) hl (fun n i hi => ?_) (fun n => ?_) (by unfold laws_eqStringS_k; omega)
    · have hy : i < y.length := by omega
      show laws_eqStringS_t1 _ _ _ _ _ = _
      unfold laws_eqStringS_t1
      rw [bif_pos (by omega), chk_pos (inb_pos hi), chk_pos (inb_pos hy), getD_at hi, getD_at hy]
      rw [w64_id (by omega) (by omega)]
      grind
    · show laws_eqStringS_t1 _ _ _ _ _ = _
      unfold laws_eqStringS_t1
      rw [bif_neg (by omega)]
  · rw [show ((x.length : Int) != (y.length : Int)) = true by simp; omega, cond_true]
    congr 1
    simp only [Bool.false_eq, decide_eq_false_iff_not]
    exact fun e => hl (by rw [e])
theorem laws_markText_go {A : Type} (ret : Str → Option A) (k : Nat) : ∀ (m : Nat) (v : Int) (acc : Str) (n : Nat), v < 10 ^ m → v < 9223372036854775808 → m < n → acc.length + m ≤ 1000 → laws_markText_l1 ret k n v acc = ret ([109] ++ mDig m v acc)
  | m, v, acc, 0, _, _, h, _ => by omega
  | 0, v, acc, n + 1, hv, _, h, ha => by
    show laws_markText_t1 _ _ _ _ = _
    unfold laws_markText_t1
    rw [bif_neg (by simp at hv; omega), chk_pos (decide_eq_true (by simp; omega))]
    rfl
  | m + 1, v, acc, n + 1, hv, hv2, h, ha => by
    show laws_markText_t1 _ _ _ _ = _
    unfold laws_markText_t1 mDig
    by_cases h0 : v > 0
    · have e1 : v.tdiv 10 = v / 10 := Int.tdiv_eq_ediv_of_nonneg (by omega)
      have hlt : v / 10 < 10 ^ m := by
        have : (10 : Int) ^ (m + 1) = 10 ^ m * 10 := Int.pow_succ ..
        omega
      rw [bif_pos h0, if_pos h0, chk_pos (decide_eq_true (by rw [toStr_one]; omega))]
      rw [e1, w64_id (n := v / 10) (by omega) (by omega)]
      exact laws_markText_go ret k m _ _ n hlt (by omega) (by omega) (by rw [List.length_append, toStr_one]; omega)
    · rw [bif_neg h0, if_neg h0, chk_pos (decide_eq_true (by simp; omega))]
theorem laws_markText_law {A : Type} (ret : Str → Option A) (k) (h : laws_markText_pre k = true) : laws_markText_s ret (laws_markText_k k) k = ret (laws_markText_f k) := by
  simp only [laws_markText_pre, decide_eq_true_eq] at h
  unfold laws_markText_s laws_markText_t0 laws_markText_f
  by_cases h0 : k ≤ 0
  · rw [bif_pos h0, if_pos h0]
  · rw [bif_neg h0, if_neg h0]
    exact laws_markText_go ret _ 19 k [] _ (by omega) (by omega) (by unfold laws_markText_k; omega) (by simp)
theorem laws_markStringS_law {A : Type} (ret : Int × List Str → Option A) (a k) (h : laws_markStringS_pre a k = true) : laws_markStringS_s ret (laws_markStringS_k a k) a k = ret (laws_markStringS_f a k) := by
  simp only [laws_markStringS_pre, Bool.and_eq_true, decide_eq_true_eq] at h
  unfold laws_markStringS_s laws_markStringS_t0 laws_markStringS_f
  refine mark_loop0 (c := 1) (by omega) (fun x k => ⟨by omega, by omega⟩) (fun n i k ys hi hy hk => ?_) (fun n k ys => ?_) (by unfold laws_markStringS_k; omega) (by omega) h.1.1 (by omega)
  · rw [kR_iff] at hk
    show laws_markStringS_t1 _ _ _ _ _ = _
    unfold laws_markStringS_t1
    rw [bif_pos (by omega), chk_pos (by unfold laws_markText_pre; exact decide_eq_true hk.2)]
    simp only
    rw [chk_pos (inb_pos hi), w64_id (by omega) (by omega), w64_id (by omega) (by omega), Int.toNat_natCast]
    rfl
  · show laws_markStringS_t1 _ _ _ _ _ = _
    unfold laws_markStringS_t1
    rw [bif_neg (by omega)]
theorem laws_heldStringS_law {A : Type} (ret : Int → Option A) (a k) (h : laws_heldStringS_pre a k = true) : laws_heldStringS_s ret (laws_heldStringS_k a k) a k = ret (laws_heldStringS_f a k) := by
  simp only [laws_heldStringS_pre, Bool.and_eq_true, decide_eq_true_eq] at h
  unfold laws_heldStringS_s laws_heldStringS_t0 laws_heldStringS_f
  refine held_loop0 (L := laws_heldStringS_l1 ret (laws_heldStringS_k a k) a) (c := 1) (by omega) (fun x k k' hk => by unfold heldStr at hk; split at hk <;> cases hk; omega) (fun n i k hi hk => ?_) (fun n k => ?_) (by unfold laws_heldStringS_k; omega) h.1.1 (by omega)
  · rw [kR_iff] at hk
    show laws_heldStringS_t1 _ _ _ _ _ = _
    unfold laws_heldStringS_t1 heldStr
    rw [bif_pos (by omega), chk_pos (inb_pos hi), chk_pos (by unfold laws_markText_pre; exact decide_eq_true hk.2), getD_at hi]
    simp only
    rw [w64_id (by omega) (by omega), w64_id (by omega) (by omega)]
    grind
  · show laws_heldStringS_t1 _ _ _ _ _ = _
    unfold laws_heldStringS_t1
    rw [bif_neg (by omega)]
theorem laws_szStringS_law {A : Type} (ret : Int → Option A) (x l) (h : laws_szStringS_pre x l = true) : laws_szStringS_s ret (laws_szStringS_k x l) x l = ret (laws_szStringS_f x l) := by
  simp only [laws_szStringS_pre, Bool.and_eq_true, szR_iff, fit_sl, decide_eq_true_eq, List.all_eq_true] at h
  obtain ⟨⟨hx, he⟩, hl0, hl1⟩ := h
  unfold laws_szStringS_s laws_szStringS_t0 laws_szStringS_f
  rw [w64_id (by omega) (by omega)]
  refine sz_loop0 (L := laws_szStringS_l1 ret (laws_szStringS_k x l) x) (fun n i v hi hv => ?_) (fun n v => ?_) hl0 hl1 (by unfold laws_szStringS_k; omega)
  · rw [szR_iff] at hv
    have hm := he x[i] (List.getElem_mem _)
    show laws_szStringS_t1 _ _ _ _ _ = _
    unfold laws_szStringS_t1
    rw [bif_pos (by omega), chk_pos (inb_pos hi), getD_at hi]
    rw [fit_str, decide_eq_true_eq] at hm
    rw [w64_id (n := v - _) (by omega) (by omega), w64_id (n := (i : Int) + 1) (by omega) (by omega), w_str]
    simp only [bif_ite]
    grind
  · show laws_szStringS_t1 _ _ _ _ _ = _
    unfold laws_szStringS_t1
    rw [bif_neg (by omega)]
theorem laws_toStringS_law {A : Type} (ret : _ → Option A) (x) (h : laws_toStringS_pre x = true) : laws_toStringS_s ret (laws_toStringS_k x) x = ret (laws_toStringS_f x) := by
  simp only [laws_toStringS_pre, decide_eq_true_eq] at h
  have hx := len_le_w x
  unfold laws_toStringS_s laws_toStringS_t0 laws_toStringS_f
  rw [chk_pos (mk_ok (by omega) (by omega)), Int.toNat_natCast]
  refine (map_loop0 (ret := ret) (L := laws_toStringS_l1 ret (laws_toStringS_k x) x) (a := x) (fun z => z) _ (fun n i ys hi hy => ?_) (fun n ys => ?_) (by unfold laws_toStringS_k; omega)).trans (congrArg ret (List.map_id' x))
  · show laws_toStringS_t1 _ _ _ _ _ = _
    unfold laws_toStringS_t1
    rw [bif_pos (by omega), chk_pos (inb_pos hi), getD_at hi]
    simp only [Int.toNat_natCast]
    rw [chk_pos (inb_pos (by omega)), w64_id (by omega) (by omega)]
    rfl
  · show laws_toStringS_t1 _ _ _ _ _ = _
    unfold laws_toStringS_t1
    rw [bif_neg (by omega)]
theorem spec_JoinedPieces_go {A : Type} (ret : Str → Option A) (k : Nat) (l : List Str) : ∀ (n i : Nat) (p : Str), i ≤ l.length → l.length - i < n → p.length + (l.drop i).flatten.length ≤ 1048576 → l.length ≤ 1048576 →
    spec_JoinedPieces_l1 ret k l n (i : Int) (bytesI p) = ret (p ++ (l.drop i).flatten)
  | 0, i, p, hi, hn, _, _ => by omega
  | n + 1, i, p, hi, hn, hp, hl => by
    show spec_JoinedPieces_t1 _ _ _ _ _ = _
    unfold spec_JoinedPieces_t1
    by_cases h : i < l.length
    · rw [List.drop_eq_getElem_cons h, List.flatten_cons] at hp ⊢
      rw [List.length_append] at hp
      rw [bif_pos (by omega), chk_pos (inb_pos h), getD_at h, chk_pos (decide_eq_true (by rw [bytesI_length, bytesI_length]; unfold maxBytes; omega)), w64_id (by omega) (by omega), ← bytesI_append]
      rw [← List.append_assoc]
      exact spec_JoinedPieces_go ret k l n (i + 1) (p ++ l[i]) h (by omega) (by rw [List.length_append]; omega) hl
    · have : i = l.length := by omega
      subst this
      rw [bif_neg (by omega), toStr_bytesI, List.drop_length]
      simp
theorem spec_JoinedPieces_law {A : Type} (ret : Str → Option A) (l) (h : spec_JoinedPieces_pre l = true) : spec_JoinedPieces_s ret (spec_JoinedPieces_k l) l = ret (spec_JoinedPieces_f l) := by
  simp only [spec_JoinedPieces_pre, decide_eq_true_eq] at h
  have := flatten_w l
  unfold spec_JoinedPieces_s spec_JoinedPieces_t0 spec_JoinedPieces_f
  exact spec_JoinedPieces_go ret _ l _ 0 [] (Nat.zero_le _) (by unfold spec_JoinedPieces_k; omega) (by simp only [List.length_nil, List.drop_zero]; omega) (by omega)
theorem spec_Early_j3_is {A : Type} (ret : List Str → Option A) (l i : Nat) (out : List Str) (rec1 : Int → Int → List Str → Option A) (s : Str) (hl : l ≤ 1048576) (hi : i ≤ 1048576) (hs : s.length ≤ l) (ho : out.length ≤ 1048576) :
    spec_Early_j3 ret l i out rec1 s = rec1 ((l - s.length : Nat) : Int) ((i + 1 : Nat) : Int) (out ++ [s]) := by
  unfold spec_Early_j3
  rw [chk_pos (decide_eq_true (by simp [maxBytes]; omega)), w64_id (by omega) (by omega), w64_id (by omega) (by omega)]
  congr 1
  omega
theorem spec_Early_go {A : Type} (ret : List Str → Option A) (k : Nat) (l : List Str) (hll : l.length ≤ 1048576) : ∀ (n i m : Nat) (out : List Str), i ≤ l.length → l.length - i < n → m ≤ 1048576 → out.length ≤ i →
    spec_Early_l1 ret k l n (m : Int) (i : Int) out = ret (out ++ earlyE (l.drop i) m)
  | 0, i, m, out, hi, hn, _, _ => by omega
  | n + 1, i, m, out, hi, hn, hm, ho => by
    show spec_Early_t1 _ _ _ _ _ _ = _
    unfold spec_Early_t1
    by_cases h : i < l.length
    · rw [List.drop_eq_getElem_cons h, bif_pos (by omega)]
      unfold earlyE
      by_cases h0 : m = 0
      · rw [bif_neg (by omega), if_pos h0, List.append_nil]
      · rw [bif_pos (by omega), if_neg h0, chk_pos (inb_pos h), getD_at h]
        have key : spec_Early_j3 ret (m : Int) (i : Int) out (spec_Early_l1 ret k l n) (l[i].take m) = ret (out ++ l[i].take m :: earlyE (l.drop (i + 1)) (m - l[i].length)) := by
          rw [spec_Early_j3_is ret m i out _ _ hm (by omega) (by rw [List.length_take]; omega) (by omega)]
          rw [show m - (l[i].take m).length = m - l[i].length by rw [List.length_take]; omega]
          rw [spec_Early_go ret k l hll n (i + 1) _ _ h (by omega) (by omega) (by rw [List.length_append]; simp; omega)]
          simp
        by_cases hc : (l[i].length : Int) > (m : Int)
        · rw [bif_pos hc, chk_pos (by simp; omega)]
          simpa using key
        · rw [bif_neg hc]
          rw [List.take_of_length_le (by omega)] at key ⊢
          exact key
    · have : i = l.length := by omega
      subst this
      rw [bif_neg (by omega), List.drop_length]
      simp [earlyE]
theorem spec_Early_law {A : Type} (ret : List Str → Option A) (l n) (h : spec_Early_pre l n = true) : spec_Early_s ret (spec_Early_k l n) l n = ret (spec_Early_f l n) := by
  simp only [spec_Early_pre, Bool.and_eq_true, decide_eq_true_eq, fit_int] at h
  have hw := flatten_w l
  have p1 : spec_JoinedPieces_pre l = true := decide_eq_true h.1
  unfold spec_Early_s spec_Early_t0 spec_Early_f early
  rw [chk_pos p1]
  simp only [spec_JoinedPieces_f, spec_Brought_f]
  have e : brought n 0 (l.flatten.length : Int) = ((min n.toNat l.flatten.length : Nat) : Int) := by unfold brought; split <;> (try split) <;> omega
  rw [e]
  have := spec_Early_go ret (spec_Early_k l n) l (by omega) (spec_Early_k l n) 0 (min n.toNat l.flatten.length) [] (Nat.zero_le _) (by unfold spec_Early_k; omega) (by omega) (Nat.le_refl _)
  simpa using this
theorem impl_Early_go2 {A : Type} (ret : List Str → Option A) (k : Nat) : ∀ (n : Nat) (out : List Str), out.length < n → out.length ≤ 1048576 → impl_Early_l2 ret k n out = ret (strip out)
  | 0, out, h, _ => by omega
  | n + 1, out, h, ho => by
    show impl_Early_t2 _ _ _ = _
    unfold impl_Early_t2
    by_cases h0 : out = []
    · subst h0; rfl
    · have hl : 0 < out.length := List.length_pos_iff.2 h0
      obtain ⟨ys, y, rfl⟩ : ∃ ys y, out = ys ++ [y] := ⟨out.dropLast, out.getLast h0, (List.dropLast_concat_getLast h0).symm⟩
      rw [List.length_append, List.length_singleton] at h ho
      have e : IntKind.wrap .i64 (((ys ++ [y]).length : Int) - 1) = (ys.length : Int) := by
        rw [List.length_append, List.length_singleton, w64_id (by omega) (by omega)]; omega
      rw [bif_pos (by rw [List.length_append, List.length_singleton]; omega), e, chk_pos (inb_pos (by simp)), getD_at (by simp)]
      have hy : (ys ++ [y])[ys.length]'(by simp) = y := by simp
      rw [hy, strip_snoc]
      by_cases hy0 : y = []
      · subst hy0
        rw [show (([] : Str) == []) = true from rfl, cond_true, if_pos rfl, chk_pos (by simp; omega), Int.toNat_natCast]
        rw [show (ys ++ [([] : Str)]).take ys.length = ys by simp]
        exact impl_Early_go2 ret k n ys (by omega) (by omega)
      · have : (y == ([] : Str)) = false := by simpa using hy0
        rw [this, cond_false, if_neg hy0]
theorem impl_Early_go {A : Type} (ret : List Str → Option A) (k : Nat) (l : List Str) (hk : l.length < k) (hll : w l ≤ 1048576) : ∀ (n i : Nat) (m : Int) (out : List Str), i ≤ l.length → l.length - i < n → -9223372036854775808 ≤ m → m ≤ 9223372036854775807 → out.length ≤ i →
    impl_Early_l1 ret k l n m (i : Int) out = ret (strip (out ++ earlyE (l.drop i) m.toNat))
  | 0, i, m, out, hi, hn, _, _, _ => by omega
  | n + 1, i, m, out, hi, hn, hm, hm2, ho => by
    have hlen := len_le_w l
    have run : ∀ out : List Str, out.length ≤ l.length → impl_Early_l2 ret k k out = ret (strip out) := fun out h => impl_Early_go2 ret k k out (by omega) (by omega)
    show impl_Early_t1 ret _ _ _ _ _ _ = _
    unfold impl_Early_t1
    by_cases h : i < l.length
    · rw [List.drop_eq_getElem_cons h, bif_pos (by omega), chk_pos (inb_pos h), getD_at h]
      unfold earlyE
      by_cases h0 : m ≤ 0
      · rw [bif_pos h0, if_pos (by omega), List.append_nil]
        exact run out (by omega)
      · have e : mnI m (l[i].length : Int) = ((min m.toNat l[i].length : Nat) : Int) := by unfold mnI; split <;> omega
        have hlw := mem_le_w (List.getElem_mem h)
        rw [w_str] at hlw
        rw [bif_neg h0, if_neg (by omega), e, chk_pos (by simp; omega), chk_pos (decide_eq_true (by simp [maxBytes]; omega))]
        have e2 : ((l[i].take ((min m.toNat l[i].length : Nat) : Int).toNat).drop (0 : Int).toNat) = l[i].take m.toNat := by
          rw [Int.toNat_natCast, show (0 : Int).toNat = 0 from rfl, List.drop_zero, List.take_eq_take_min (i := m.toNat)]
        rw [e2, w64_id (by rw [List.length_take]; omega) (by omega), w64_id (by omega) (by omega)]
        have := impl_Early_go ret k l hk hll n (i + 1) (m - ((l[i].take m.toNat).length : Int)) (out ++ [l[i].take m.toNat]) h (by omega) (by rw [List.length_take]; omega) (by omega) (by rw [List.length_append]; simp; omega)
        rw [show (m - ((l[i].take m.toNat).length : Int)).toNat = m.toNat - l[i].length by rw [List.length_take]; omega] at this
        rw [show ((i : Int) + 1) = ((i + 1 : Nat) : Int) by simp, this]
        simp
    · have : i = l.length := by omega
      subst this
      rw [bif_neg (by omega), List.drop_length]
      have := run out ho
      simpa [earlyE] using this
theorem impl_Early_law {A : Type} (ret : List Str → Option A) (l n) (h : impl_Early_pre l n = true) : impl_Early_s ret (impl_Early_k l n) l n = ret (impl_Early_f l n) := by
  simp only [impl_Early_pre, Bool.and_eq_true, decide_eq_true_eq, fit_int] at h
  unfold impl_Early_s impl_Early_t0 impl_Early_f early
  have := impl_Early_go ret (impl_Early_k l n) l (by unfold impl_Early_k; omega) h.1 (impl_Early_k l n) 0 n [] (Nat.zero_le _) (by unfold impl_Early_k; omega) h.2.1 h.2.2 (Nat.le_refl _)
  rw [← strip_early]
  simpa using this
theorem laws_FnExactEarly_law {A : Type} (ret : Bool → Option A) (a b) (h : laws_FnExactEarly_pre a b = true) : laws_FnExactEarly_s ret a b = ret (laws_FnExactEarly_f a b) := by
  simp only [laws_FnExactEarly_pre, Bool.and_eq_true] at h
  have p0 : laws_szStringS_pre a 1048576 = true := by simp only [laws_szStringS_pre, Bool.and_eq_true]; exact ⟨h.1, rfl⟩
  unfold laws_FnExactEarly_s laws_FnExactEarly_f
  rw [chk_pos p0]
  by_cases ha : (w a : Int) ≤ 1048576
  · rw [show laws_szStringS_f a 1048576 = _ from szF_pos ha, bif_neg (by omega)]
    have hw : w (early a b) ≤ w a := earlyE_w _ _
    have hl := len_le_w (early a b)
    have hla := len_le_w a
    have p1 : laws_toStringS_pre a = true := decide_eq_true (by omega)
    have p2 : spec_Early_pre a b = true := by simp only [spec_Early_pre, Bool.and_eq_true]; exact ⟨decide_eq_true (by omega), h.2⟩
    have p3 : impl_Early_pre a b = true := by simp only [impl_Early_pre, Bool.and_eq_true]; exact ⟨decide_eq_true (by omega), h.2⟩
    have p4 : laws_eqStringS_pre (early a b) (early a b) = true := decide_eq_true (by omega)
    have p5 : laws_eqStringS_pre a a = true := decide_eq_true (by omega)
    have p6 : laws_markStringS_pre a 1 = true := by simp only [laws_markStringS_pre, Bool.and_eq_true, decide_eq_true_eq]; omega
    have p7 : laws_markStringS_pre (early a b) 1 = true := by simp only [laws_markStringS_pre, Bool.and_eq_true, decide_eq_true_eq]; omega
    have p8 : laws_heldStringS_pre (laws_markStringS_f (early a b) 1).2 1 = true := by
      simp only [laws_heldStringS_pre, Bool.and_eq_true, decide_eq_true_eq, laws_markStringS_f, markL_len]; omega
    have q1 := (markL_le (f := fun (_ : Str) k => (k + 1, laws_markText_f k)) (c := 1) (by omega) (fun x k => ⟨by omega, by omega⟩) a 1).1
    have q2 := (markL_le (f := fun (_ : Str) k => (k + 1, laws_markText_f k)) (c := 1) (by omega) (fun x k => ⟨by omega, by omega⟩) (early a b) 1).1
    have q3 : laws_heldStringS_f (laws_markStringS_f (early a b) 1).2 1 = (laws_markStringS_f (early a b) 1).1 :=
      held_mark (fun x k => by simp [heldStr]) _ _
    have n1 : ¬ (laws_markStringS_f a 1).1 < 0 := by unfold laws_markStringS_f; omega
    have n2 : ¬ (laws_markStringS_f (early a b) 1).1 < 0 := by unfold laws_markStringS_f; omega
    simp only [laws_toStringS_f, spec_Early_f, impl_Early_f, laws_eqStringS_f, p1, p2, p3, p4, p5, p6, p7, p8, q3, n1, n2, chk_tt, decide_true, decide_false, Bool.not_true, cond_false, bne_self_eq_false]
  · rw [show laws_szStringS_f a 1048576 = _ from szF_neg ha, bif_pos (by omega)]
end Go.Vp
