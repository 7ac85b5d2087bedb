/-
  Plain laws, part 0: words for the plain functions; loops over lists. Our own text; no program in it.
-/
import Derived.Test.YtopiinnggjcbnaaViD
import Derived.Laws.Bits64
import Derived.Laws.BitsLemmas
namespace Go.Vp
open Go Go.Vi
theorem w64_id {n : Int} (h0 : -9223372036854775808 ≤ n) (h1 : n < 9223372036854775808) : IntKind.wrap .i64 n = n := by
  rw [IntKind.wrap_i64]; omega
theorem wu64_id {n : Int} (h0 : 0 ≤ n) (h1 : n < 18446744073709551616) : IntKind.wrap .u64 n = n := by
  rw [IntKind.wrap_u64]; omega
theorem chk_pos {A : Type} {b : Bool} {x : Option A} (h : b = true) : chk b x = x := by rw [h]; rfl
theorem chk_tt {A : Type} {x : Option A} : chk true x = x := rfl
theorem bif_pos {A : Type} {c : Prop} [Decidable c] {x y : A} (h : c) : (bif decide c then x else y) = x := by simp [h]
theorem bif_neg {A : Type} {c : Prop} [Decidable c] {x y : A} (h : ¬ c) : (bif decide c then x else y) = y := by simp [h]
theorem bif_ite {A : Type} {c : Prop} [Decidable c] {x y : A} : (bif decide c then x else y) = if c then x else y := by by_cases h : c <;> simp [h]
theorem inb_pos {i : Nat} {n : Nat} (h : i < n) : (decide (0 ≤ (i : Int)) && decide ((i : Int) < (n : Int))) = true := by simp; omega
theorem getD_at {α : Type} {a : List α} {i : Nat} {d : α} (h : i < a.length) : a.getD ((i : Int).toNat) d = a[i] := by
  rw [Int.toNat_natCast, List.getD_eq_getElem?_getD, List.getElem?_eq_getElem h]; rfl
theorem len_eq {α β : Type} {a : List α} {b : List β} : (((a.length : Int) != (b.length : Int)) = true) ↔ a.length ≠ b.length := by
  simp only [bne_iff_ne, ne_eq]; omega
/-! weights -/
class Wt (α : Type) where
  w : α → Nat
instance : Wt Int := ⟨fun _ => 0⟩
instance : Wt Bool := ⟨fun _ => 0⟩
instance : Wt Unit := ⟨fun _ => 0⟩
instance : Wt UInt8 := ⟨fun _ => 0⟩
instance {α : Type} [Wt α] : Wt (List α) := ⟨fun l => l.length + (l.map Wt.w).sum⟩
instance {α β : Type} [Wt α] [Wt β] : Wt (α × β) := ⟨fun x => Wt.w x.1 + Wt.w x.2⟩
open Wt
/-! the kinds of structs -/
instance : Wt (Str × Unit) := inferInstance
instance : DecidableEq (Str × Unit) := inferInstance
abbrev TPair := Str × (Str × Unit)
instance : Wt TPair := inferInstanceAs (Wt (Str × (Str × Unit)))
instance : DecidableEq TPair := inferInstanceAs (DecidableEq (Str × (Str × Unit)))
abbrev TPoint := Bool × TPair
instance : Wt TPoint := inferInstanceAs (Wt (Bool × TPair))
instance : DecidableEq TPoint := inferInstanceAs (DecidableEq (Bool × TPair))
instance : Wt (TPair × Unit) := inferInstance
instance : DecidableEq (TPair × Unit) := inferInstance
instance : Wt (TPair × (TPair × Unit)) := inferInstance
instance : DecidableEq (TPair × (TPair × Unit)) := inferInstance
abbrev TPairPoint := Bool × (TPair × (TPair × Unit))
instance : Wt TPairPoint := inferInstanceAs (Wt (Bool × (TPair × (TPair × Unit))))
instance : DecidableEq TPairPoint := inferInstanceAs (DecidableEq (Bool × (TPair × (TPair × Unit))))
abbrev TTerm := Int × (Str × Unit)
instance : Wt TTerm := inferInstanceAs (Wt (Int × (Str × Unit)))
instance : DecidableEq TTerm := inferInstanceAs (DecidableEq (Int × (Str × Unit)))
instance : Wt ((List TTerm) × Unit) := inferInstance
instance : DecidableEq ((List TTerm) × Unit) := inferInstance
instance : Wt ((List TTerm) × ((List TTerm) × Unit)) := inferInstance
instance : DecidableEq ((List TTerm) × ((List TTerm) × Unit)) := inferInstance
abbrev TRow := (List TTerm) × ((List TTerm) × ((List TTerm) × Unit))
instance : Wt TRow := inferInstanceAs (Wt ((List TTerm) × ((List TTerm) × ((List TTerm) × Unit))))
instance : DecidableEq TRow := inferInstanceAs (DecidableEq ((List TTerm) × ((List TTerm) × ((List TTerm) × Unit))))
instance : Wt ((List TRow) × Unit) := inferInstance
instance : DecidableEq ((List TRow) × Unit) := inferInstance
instance : Wt ((List Int) × ((List TRow) × Unit)) := inferInstance
instance : DecidableEq ((List Int) × ((List TRow) × Unit)) := inferInstance
instance : Wt (Int × ((List Int) × ((List TRow) × Unit))) := inferInstance
instance : DecidableEq (Int × ((List Int) × ((List TRow) × Unit))) := inferInstance
instance : Wt (Int × (Int × ((List Int) × ((List TRow) × Unit)))) := inferInstance
instance : DecidableEq (Int × (Int × ((List Int) × ((List TRow) × Unit)))) := inferInstance
instance : Wt (Int × (Int × (Int × ((List Int) × ((List TRow) × Unit))))) := inferInstance
instance : DecidableEq (Int × (Int × (Int × ((List Int) × ((List TRow) × Unit))))) := inferInstance
instance : Wt (Int × (Int × (Int × (Int × ((List Int) × ((List TRow) × Unit)))))) := inferInstance
instance : DecidableEq (Int × (Int × (Int × (Int × ((List Int) × ((List TRow) × Unit)))))) := inferInstance
abbrev TSystem := Int × (Int × (Int × (Int × (Int × ((List Int) × ((List TRow) × Unit))))))
instance : Wt TSystem := inferInstanceAs (Wt (Int × (Int × (Int × (Int × (Int × ((List Int) × ((List TRow) × Unit))))))))
instance : DecidableEq TSystem := inferInstanceAs (DecidableEq (Int × (Int × (Int × (Int × (Int × ((List Int) × ((List TRow) × Unit))))))))
instance : Wt ((List Str) × Unit) := inferInstance
instance : DecidableEq ((List Str) × Unit) := inferInstance
abbrev TWitness := Int × ((List Str) × Unit)
instance : Wt TWitness := inferInstanceAs (Wt (Int × ((List Str) × Unit)))
instance : DecidableEq TWitness := inferInstanceAs (DecidableEq (Int × ((List Str) × Unit)))
instance : Wt ((List TPoint) × Unit) := inferInstance
instance : DecidableEq ((List TPoint) × Unit) := inferInstance
instance : Wt (TPairPoint × ((List TPoint) × Unit)) := inferInstance
instance : DecidableEq (TPairPoint × ((List TPoint) × Unit)) := inferInstance
instance : Wt (TPairPoint × (TPairPoint × ((List TPoint) × Unit))) := inferInstance
instance : DecidableEq (TPairPoint × (TPairPoint × ((List TPoint) × Unit))) := inferInstance
instance : Wt (TPairPoint × (TPairPoint × (TPairPoint × ((List TPoint) × Unit)))) := inferInstance
instance : DecidableEq (TPairPoint × (TPairPoint × (TPairPoint × ((List TPoint) × Unit)))) := inferInstance
instance : Wt (TPoint × (TPairPoint × (TPairPoint × (TPairPoint × ((List TPoint) × Unit))))) := inferInstance
instance : DecidableEq (TPoint × (TPairPoint × (TPairPoint × (TPairPoint × ((List TPoint) × Unit))))) := inferInstance
abbrev TKey := Int × (TPoint × (TPairPoint × (TPairPoint × (TPairPoint × ((List TPoint) × Unit)))))
instance : Wt TKey := inferInstanceAs (Wt (Int × (TPoint × (TPairPoint × (TPairPoint × (TPairPoint × ((List TPoint) × Unit)))))))
instance : DecidableEq TKey := inferInstanceAs (DecidableEq (Int × (TPoint × (TPairPoint × (TPairPoint × (TPairPoint × ((List TPoint) × Unit)))))))
instance : Wt (TPoint × Unit) := inferInstance
instance : DecidableEq (TPoint × Unit) := inferInstance
instance : Wt (TPairPoint × (TPoint × Unit)) := inferInstance
instance : DecidableEq (TPairPoint × (TPoint × Unit)) := inferInstance
instance : Wt (TPoint × (TPairPoint × (TPoint × Unit))) := inferInstance
instance : DecidableEq (TPoint × (TPairPoint × (TPoint × Unit))) := inferInstance
abbrev TProof := Int × (TPoint × (TPairPoint × (TPoint × Unit)))
instance : Wt TProof := inferInstanceAs (Wt (Int × (TPoint × (TPairPoint × (TPoint × Unit)))))
instance : DecidableEq TProof := inferInstanceAs (DecidableEq (Int × (TPoint × (TPairPoint × (TPoint × Unit)))))
instance : Wt (TProof × Unit) := inferInstance
instance : DecidableEq (TProof × Unit) := inferInstance
instance : Wt (TKey × (TProof × Unit)) := inferInstance
instance : DecidableEq (TKey × (TProof × Unit)) := inferInstance
instance : Wt (TWitness × (TKey × (TProof × Unit))) := inferInstance
instance : DecidableEq (TWitness × (TKey × (TProof × Unit))) := inferInstance
instance : Wt (TSystem × (TWitness × (TKey × (TProof × Unit)))) := inferInstance
instance : DecidableEq (TSystem × (TWitness × (TKey × (TProof × Unit)))) := inferInstance
instance : Wt (TPairPoint × (TSystem × (TWitness × (TKey × (TProof × Unit))))) := inferInstance
instance : DecidableEq (TPairPoint × (TSystem × (TWitness × (TKey × (TProof × Unit))))) := inferInstance
instance : Wt (TPoint × (TPairPoint × (TSystem × (TWitness × (TKey × (TProof × Unit)))))) := inferInstance
instance : DecidableEq (TPoint × (TPairPoint × (TSystem × (TWitness × (TKey × (TProof × Unit)))))) := inferInstance
instance : Wt (Int × (TPoint × (TPairPoint × (TSystem × (TWitness × (TKey × (TProof × Unit))))))) := inferInstance
instance : DecidableEq (Int × (TPoint × (TPairPoint × (TSystem × (TWitness × (TKey × (TProof × Unit))))))) := inferInstance
abbrev TArtefact := Int × (Int × (TPoint × (TPairPoint × (TSystem × (TWitness × (TKey × (TProof × Unit)))))))
instance : Wt TArtefact := inferInstanceAs (Wt (Int × (Int × (TPoint × (TPairPoint × (TSystem × (TWitness × (TKey × (TProof × Unit)))))))))
instance : DecidableEq TArtefact := inferInstanceAs (DecidableEq (Int × (Int × (TPoint × (TPairPoint × (TSystem × (TWitness × (TKey × (TProof × Unit)))))))))
instance : Wt (Int × Unit) := inferInstance
instance : DecidableEq (Int × Unit) := inferInstance
instance : Wt (Int × (Int × Unit)) := inferInstance
instance : DecidableEq (Int × (Int × Unit)) := inferInstance
instance : Wt (Int × (Int × (Int × Unit))) := inferInstance
instance : DecidableEq (Int × (Int × (Int × Unit))) := inferInstance
abbrev TSource := (List Str) × (Int × (Int × (Int × Unit)))
instance : Wt TSource := inferInstanceAs (Wt ((List Str) × (Int × (Int × (Int × Unit)))))
instance : DecidableEq TSource := inferInstanceAs (DecidableEq ((List Str) × (Int × (Int × (Int × Unit)))))
instance : Wt (Int × (Int × (Int × (Int × Unit)))) := inferInstance
instance : DecidableEq (Int × (Int × (Int × (Int × Unit)))) := inferInstance
abbrev TLimits := Int × (Int × (Int × (Int × (Int × Unit))))
instance : Wt TLimits := inferInstanceAs (Wt (Int × (Int × (Int × (Int × (Int × Unit))))))
instance : DecidableEq TLimits := inferInstanceAs (DecidableEq (Int × (Int × (Int × (Int × (Int × Unit))))))
instance : Wt (Bool × Unit) := inferInstance
instance : DecidableEq (Bool × Unit) := inferInstance
instance : Wt (Int × (Bool × Unit)) := inferInstance
instance : DecidableEq (Int × (Bool × Unit)) := inferInstance
instance : Wt (Int × (Int × (Bool × Unit))) := inferInstance
instance : DecidableEq (Int × (Int × (Bool × Unit))) := inferInstance
instance : Wt (TPair × (Int × (Int × (Bool × Unit)))) := inferInstance
instance : DecidableEq (TPair × (Int × (Int × (Bool × Unit)))) := inferInstance
instance : Wt (Str × (TPair × (Int × (Int × (Bool × Unit))))) := inferInstance
instance : DecidableEq (Str × (TPair × (Int × (Int × (Bool × Unit))))) := inferInstance
instance : Wt (Str × (Str × (TPair × (Int × (Int × (Bool × Unit)))))) := inferInstance
instance : DecidableEq (Str × (Str × (TPair × (Int × (Int × (Bool × Unit)))))) := inferInstance
instance : Wt (Str × (Str × (Str × (TPair × (Int × (Int × (Bool × Unit))))))) := inferInstance
instance : DecidableEq (Str × (Str × (Str × (TPair × (Int × (Int × (Bool × Unit))))))) := inferInstance
abbrev TCurve := Str × (Str × (Str × (Str × (TPair × (Int × (Int × (Bool × Unit)))))))
instance : Wt TCurve := inferInstanceAs (Wt (Str × (Str × (Str × (Str × (TPair × (Int × (Int × (Bool × Unit)))))))))
instance : DecidableEq TCurve := inferInstanceAs (DecidableEq (Str × (Str × (Str × (Str × (TPair × (Int × (Int × (Bool × Unit)))))))))
abbrev tPair : Ty := .pair .str (.pair .str .unit)
abbrev tPoint : Ty := .pair .bool (.pair .str (.pair .str .unit))
abbrev tPairPoint : Ty := .pair .bool (.pair (.pair .str (.pair .str .unit)) (.pair (.pair .str (.pair .str .unit)) .unit))
abbrev tTerm : Ty := .pair (.int .i64) (.pair .str .unit)
abbrev tRow : Ty := .pair (.sl tTerm) (.pair (.sl tTerm) (.pair (.sl tTerm) .unit))
abbrev tSystem : Ty := .pair (.int .i64) (.pair (.int .i64) (.pair (.int .i64) (.pair (.int .i64) (.pair (.int .i64) (.pair (.sl (.int .i64)) (.pair (.sl tRow) .unit))))))
abbrev tWitness : Ty := .pair (.int .i64) (.pair (.sl .str) .unit)
abbrev tKey : Ty := .pair (.int .i64) (.pair tPoint (.pair tPairPoint (.pair tPairPoint (.pair tPairPoint (.pair (.sl tPoint) .unit)))))
abbrev tProof : Ty := .pair (.int .i64) (.pair tPoint (.pair tPairPoint (.pair tPoint .unit)))
abbrev tSource : Ty := .pair (.sl .str) (.pair (.int .i64) (.pair (.int .i64) (.pair (.int .i64) .unit)))
abbrev tLimits : Ty := .pair (.int .i64) (.pair (.int .i64) (.pair (.int .i64) (.pair (.int .i64) (.pair (.int .i64) .unit))))
theorem sum_zero {α : Type} (l : List α) : (l.map fun _ => 0).sum = 0 := by induction l <;> simp_all
@[simp] theorem w_int (n : Int) : w n = 0 := rfl
@[simp] theorem w_bool (n : Bool) : w n = 0 := rfl
@[simp] theorem w_unit (n : Unit) : w n = 0 := rfl
theorem w_str (s : Str) : w s = s.length := by
  show s.length + (s.map fun _ => 0).sum = s.length
  rw [sum_zero]; rfl
theorem w_ints (s : List Int) : w s = s.length := by
  show s.length + (s.map fun _ => 0).sum = s.length
  rw [sum_zero]; rfl
theorem w_pair {α β : Type} [Wt α] [Wt β] (a : α) (b : β) : w (a, b) = w a + w b := rfl
theorem w_pair' {α β : Type} [Wt α] [Wt β] (x : α × β) : w x = w x.1 + w x.2 := rfl
theorem w_list {α : Type} [Wt α] (l : List α) : w l = l.length + (l.map w).sum := rfl
theorem w_snoc (out : List Str) (s : Str) : w (out ++ [s]) = w out + 1 + s.length := by
  rw [w_list, w_list, List.length_append, List.map_append, List.sum_append, List.map_singleton, List.sum_singleton, w_str, List.length_singleton]
  omega
theorem len_le_w {α : Type} [Wt α] (l : List α) : l.length ≤ w l := by rw [w_list]; omega
theorem mem_le_sum {l : List Nat} {n : Nat} (h : n ∈ l) : n ≤ l.sum := by
  induction l with
  | nil => simp at h
  | cons x l ih =>
    rcases List.mem_cons.1 h with rfl | h
    · simp
    · have := ih h; simp; omega
theorem mem_le_w {α : Type} [Wt α] {l : List α} {x : α} (h : x ∈ l) : w x ≤ w l := by
  rw [w_list]
  have := mem_le_sum (List.mem_map_of_mem (f := w) h)
  omega
/-- what is left of a number of bytes -/
def szF {α : Type} [Wt α] (x : α) (left : Int) : Int := if (w x : Int) ≤ left then left - w x else -1
theorem szF_pos {α : Type} [Wt α] {x : α} {l : Int} (h : (w x : Int) ≤ l) : szF x l = l - w x := if_pos h
theorem szF_neg {α : Type} [Wt α] {x : α} {l : Int} (h : ¬ (w x : Int) ≤ l) : szF x l = -1 := if_neg h
def szR (left : Int) : Bool := decide (0 ≤ left) && decide (left ≤ 1048576)
theorem szR_iff {l : Int} : szR l = true ↔ 0 ≤ l ∧ l ≤ 1048576 := by simp [szR]
theorem fit_pair {a b : Ty} {x : (Ty.pair a b).D} : fit (.pair a b) x = (fit a x.1 && fit b x.2) := rfl
theorem fitp {a b : Ty} {x : a.D} {y : b.D} (h : fit (.pair a b) (x, y) = true) : fit a x = true ∧ fit b y = true := by
  rw [fit_pair, Bool.and_eq_true] at h; exact h
theorem fit_unit {x : Unit} : fit .unit x = true := rfl
theorem fit_bool {x : Bool} : fit .bool x = true := rfl
theorem fit_str {x : Str} : fit .str x = decide (x.length ≤ 140737488351232) := rfl
theorem fit_int {x : Int} : fit (.int .i64) x = (decide (-9223372036854775808 ≤ x) && decide (x ≤ 9223372036854775807)) := rfl
theorem fit_sl {e : Ty} {x : List e.D} : fit (.sl e) x = (decide (x.length ≤ 140737488351232) && x.all (fit e)) := rfl
theorem chk_ite {A : Type} {b : Bool} {x : Option A} : chk b x = if b = true then x else none := by cases b <;> rfl
theorem mk_ok {n : Nat} {b : Int} (_ : 0 ≤ b) (h : (n : Int) * b ≤ 70368744177664) : (decide (0 ≤ (n : Int)) && decide ((n : Int) ≤ (n : Int)) && decide ((n : Int) * b ≤ (maxBytes : Int))) = true := by
  rw [Bool.and_eq_true, Bool.and_eq_true]
  exact ⟨⟨decide_eq_true (Int.natCast_nonneg _), decide_eq_true (Int.le_refl _)⟩, decide_eq_true (by unfold maxBytes; omega)⟩
/-! loops -/
theorem eqL_loop {α A : Type} [DecidableEq α] {E R : Option A} {L : Nat → Int → Option A} {a b : List α} (hl : a.length = b.length)
    (h1 : ∀ (n i : Nat) (hi : i < a.length), L (n + 1) (i : Int) = if a[i] = b[i]'(by omega) then L n ((i + 1 : Nat) : Int) else R)
    (h2 : ∀ n : Nat, L (n + 1) (a.length : Int) = E) : ∀ (n i : Nat), i ≤ a.length → a.length - i < n → L n (i : Int) = if a.drop i = b.drop i then E else R
  | 0, i, hi, hn => by omega
  | n + 1, i, hi, hn => by
    by_cases h : i < a.length
    · rw [h1 n i h, eqL_loop hl h1 h2 n (i + 1) h (by omega)]
      have hb : i < b.length := by omega
      rw [List.drop_eq_getElem_cons h, List.drop_eq_getElem_cons hb]
      by_cases he : a[i] = b[i]'hb
      · rw [if_pos he]; simp only [List.cons.injEq, he, true_and]
      · rw [if_neg he, if_neg (by simp only [List.cons.injEq, he, false_and, not_false_eq_true])]
    · have : i = a.length := by omega
      subst this
      rw [h2, List.drop_length, hl, List.drop_length]
      simp
theorem eqL_loop0 {α A : Type} [DecidableEq α] {E R : Option A} {L : Nat → Int → Option A} {a b : List α} (hl : a.length = b.length)
    (h1 : ∀ (n i : Nat) (hi : i < a.length), L (n + 1) (i : Int) = if a[i] = b[i]'(by omega) then L n ((i + 1 : Nat) : Int) else R)
    (h2 : ∀ n : Nat, L (n + 1) (a.length : Int) = E) {n : Nat} (hn : a.length < n) : L n 0 = if a = b then E else R := by
  have := eqL_loop hl h1 h2 n 0 (Nat.zero_le _) (by omega)
  simpa using this
theorem eq_loop0 {α A : Type} [DecidableEq α] {ret : Bool → Option A} {L : Nat → Int → Option A} {a b : List α} (hl : a.length = b.length)
    (h1 : ∀ (n i : Nat) (hi : i < a.length), L (n + 1) (i : Int) = if a[i] = b[i]'(by omega) then L n ((i + 1 : Nat) : Int) else ret false)
    (h2 : ∀ n : Nat, L (n + 1) (a.length : Int) = ret true) {n : Nat} (hn : a.length < n) : L n 0 = ret (decide (a = b)) := by
  rw [eqL_loop0 hl h1 h2 hn]
  by_cases h : a = b
  · rw [if_pos h, decide_eq_true h]
  · rw [if_neg h, decide_eq_false h]
/-! '==' of data -/
theorem eqD_iff : ∀ {t : Ty} {x y : t.D}, t.flat = true → (eqD t x y = true ↔ x = y)
  | .int _, x, y, _ => by simp [eqD]
  | .bool, x, y, _ => by simp [eqD]
  | .str, x, y, _ => by simp [eqD]
  | .sl _, _, _, h => by cases h
  | .unit, x, y, _ => by simp [eqD]
  | .pair a b, x, y, h => by
    have h' : a.flat = true ∧ b.flat = true := by simpa [Ty.flat] using h
    simp only [eqD, Bool.and_eq_true, eqD_iff h'.1, eqD_iff h'.2]
    exact ⟨fun ⟨h1, h2⟩ => Prod.ext h1 h2, fun h => ⟨by rw [h], by rw [h]⟩⟩
theorem eqD_val {t : Ty} {x y : t.D} [Decidable (x = y)] (h : t.flat = true) : eqD t x y = decide (x = y) := by
  rw [Bool.eq_iff_iff, eqD_iff h, decide_eq_true_eq]
/-! marks -/
def markL {α : Type} (f : α → Int → Int × α) : List α → Int → Int × List α
  | [], k => (k, [])
  | x :: xs, k => ((markL f xs (f x k).1).1, (f x k).2 :: (markL f xs (f x k).1).2)
def heldL {α : Type} (f : α → Int → Option Int) : List α → Int → Int
  | [], k => k
  | x :: xs, k => match f x k with
    | none => -1
    | some k => heldL f xs k
theorem held_mark {α : Type} {f : α → Int → Int × α} {g : α → Int → Option Int} (h : ∀ x k, g (f x k).2 k = some (f x k).1) : ∀ (xs : List α) (k : Int), heldL g (markL f xs k).2 k = (markL f xs k).1
  | [], k => rfl
  | x :: xs, k => by
    simp only [markL, heldL, h]
    exact held_mark h xs _
theorem markL_len {α : Type} {f : α → Int → Int × α} : ∀ (xs : List α) (k : Int), (markL f xs k).2.length = xs.length
  | [], k => rfl
  | x :: xs, k => by simp [markL, markL_len xs]
def kR (k : Int) : Bool := decide (0 ≤ k) && decide (k ≤ 2305843009213693952)
theorem kR_iff {k : Int} : kR k = true ↔ 0 ≤ k ∧ k ≤ 2305843009213693952 := by simp [kR]
theorem markL_le {α : Type} {f : α → Int → Int × α} {c : Int} (hc : 0 ≤ c) (hf : ∀ x k, k ≤ (f x k).1 ∧ (f x k).1 ≤ k + c) : ∀ (xs : List α) (k : Int), k ≤ (markL f xs k).1 ∧ (markL f xs k).1 ≤ k + c * xs.length
  | [], k => by simp [markL]
  | x :: xs, k => by
    have h1 := hf x k
    have h2 := markL_le hc hf xs (f x k).1
    simp only [markL, List.length_cons]
    have : c * ((xs.length + 1 : Nat) : Int) = c * xs.length + c := by rw [Int.natCast_add, Int.mul_add]; simp
    omega
theorem mark_loop {α A : Type} {ret : Int × List α → Option A} {L : Nat → Int → Int → List α → Option A} {f : α → Int → Int × α} {c : Int} (hc : 0 ≤ c) (hf : ∀ x k, k ≤ (f x k).1 ∧ (f x k).1 ≤ k + c)
    (h1 : ∀ (n i : Nat) (k : Int) (ys : List α) (hi : i < ys.length), ys.length ≤ 2305843009213693952 → kR k = true → L (n + 1) k (i : Int) ys = L n (f ys[i] k).1 ((i + 1 : Nat) : Int) (ys.set i (f ys[i] k).2))
    (h2 : ∀ (n : Nat) (k : Int) (ys : List α), L (n + 1) k (ys.length : Int) ys = ret (k, ys)) : ∀ (xs p : List α) (n : Nat) (k : Int), xs.length < n → (p ++ xs).length ≤ 2305843009213693952 → 0 ≤ k → k + c * xs.length ≤ 2305843009213693952 → L n k (p.length : Int) (p ++ xs) = ret ((markL f xs k).1, p ++ (markL f xs k).2)
  | [], p, 0, k, hn, _, _, _ => by simp at hn
  | [], p, n + 1, k, hn, _, _, _ => by
    rw [List.append_nil, h2]
    simp [markL]
  | x :: xs, p, 0, k, hn, _, _, _ => by simp at hn
  | x :: xs, p, n + 1, k, hn, hl, hk, hk2 => by
    have hi : p.length < (p ++ x :: xs).length := by simp
    have hx : (p ++ x :: xs)[p.length] = x := by simp
    have e1 : c * ((xs.length + 1 : Nat) : Int) = c * xs.length + c := by rw [Int.natCast_add, Int.mul_add]; simp
    have hm : 0 ≤ c * (xs.length : Int) := Int.mul_nonneg hc (Int.natCast_nonneg _)
    simp only [List.length_cons] at hk2 hn
    rw [h1 n p.length k _ hi hl (kR_iff.2 (by omega)), hx]
    have hs : (p ++ x :: xs).set p.length (f x k).2 = (p ++ [(f x k).2]) ++ xs := by simp
    have hf' := hf x k
    have ih := mark_loop hc hf h1 h2 xs (p ++ [(f x k).2]) n (f x k).1 (by omega) (by simpa using hl) (by omega) (by omega)
    rw [List.length_append, List.length_singleton] at ih
    rw [hs, ih]
    simp [markL]
theorem mark_loop0 {α A : Type} {ret : Int × List α → Option A} {L : Nat → Int → Int → List α → Option A} {f : α → Int → Int × α} {c : Int} (hc : 0 ≤ c) (hf : ∀ x k, k ≤ (f x k).1 ∧ (f x k).1 ≤ k + c)
    (h1 : ∀ (n i : Nat) (k : Int) (ys : List α) (hi : i < ys.length), ys.length ≤ 2305843009213693952 → kR k = true → L (n + 1) k (i : Int) ys = L n (f ys[i] k).1 ((i + 1 : Nat) : Int) (ys.set i (f ys[i] k).2))
    (h2 : ∀ (n : Nat) (k : Int) (ys : List α), L (n + 1) k (ys.length : Int) ys = ret (k, ys)) {xs : List α} {n : Nat} {k : Int} (hn : xs.length < n) (hl : xs.length ≤ 2305843009213693952) (hk : 0 ≤ k) (hk2 : k + c * xs.length ≤ 2305843009213693952) : L n k 0 xs = ret (markL f xs k) := by
  have := mark_loop hc hf h1 h2 xs [] n k hn hl hk hk2
  simpa using this
theorem held_loop {α A : Type} {ret : Int → Option A} {L : Nat → Int → Int → Option A} {a : List α} {f : α → Int → Option Int} {c : Int} (hc : 0 ≤ c) (hf : ∀ x k k', f x k = some k' → k ≤ k' ∧ k' ≤ k + c)
    (h1 : ∀ (n i : Nat) (k : Int) (hi : i < a.length), kR k = true → L (n + 1) k (i : Int) = match f a[i] k with | some k' => L n k' ((i + 1 : Nat) : Int) | none => ret (-1))
    (h2 : ∀ (n : Nat) (k : Int), L (n + 1) k (a.length : Int) = ret k) : ∀ (n i : Nat) (k : Int), i ≤ a.length → a.length - i < n → 0 ≤ k → k + c * ((a.length - i : Nat) : Int) ≤ 2305843009213693952 → L n k (i : Int) = ret (heldL f (a.drop i) k)
  | 0, i, k, hi, hn, _, _ => by omega
  | n + 1, i, k, hi, hn, hk, hk2 => by
    by_cases h : i < a.length
    · have e1 : c * ((a.length - i : Nat) : Int) = c * ((a.length - (i + 1) : Nat) : Int) + c := by
        rw [show a.length - i = (a.length - (i + 1)) + 1 by omega, Int.natCast_add, Int.mul_add]; simp
      have hm : 0 ≤ c * ((a.length - (i + 1) : Nat) : Int) := Int.mul_nonneg hc (Int.natCast_nonneg _)
      rw [h1 n i k h (kR_iff.2 (by omega)), List.drop_eq_getElem_cons h]
      simp only [heldL]
      cases hk' : f a[i] k with
      | some k' =>
        have := hf _ _ _ hk'
        simp only
        rw [held_loop hc hf h1 h2 n (i + 1) k' h (by omega) (by omega) (by omega)]
      | none => simp only
    · have : i = a.length := by omega
      subst this
      rw [h2, List.drop_length]
      rfl
theorem held_loop0 {α A : Type} {ret : Int → Option A} {L : Nat → Int → Int → Option A} {a : List α} {f : α → Int → Option Int} {c : Int} (hc : 0 ≤ c) (hf : ∀ x k k', f x k = some k' → k ≤ k' ∧ k' ≤ k + c)
    (h1 : ∀ (n i : Nat) (k : Int) (hi : i < a.length), kR k = true → L (n + 1) k (i : Int) = match f a[i] k with | some k' => L n k' ((i + 1 : Nat) : Int) | none => ret (-1))
    (h2 : ∀ (n : Nat) (k : Int), L (n + 1) k (a.length : Int) = ret k) {n : Nat} {k : Int} (hn : a.length < n) (hk : 0 ≤ k) (hk2 : k + c * (a.length : Int) ≤ 2305843009213693952) : L n k 0 = ret (heldL f a k) := by
  have := held_loop hc hf h1 h2 n 0 k (Nat.zero_le _) (by omega) hk (by simpa using hk2)
  simpa using this
theorem map_loop {α β A : Type} {ret : List β → Option A} {L : Nat → Int → List β → Option A} {a : List α} (f : α → β)
    (h1 : ∀ (n i : Nat) (ys : List β) (hi : i < a.length), ys.length = a.length → L (n + 1) (i : Int) ys = L n ((i + 1 : Nat) : Int) (ys.set i (f a[i])))
    (h2 : ∀ (n : Nat) (ys : List β), L (n + 1) (a.length : Int) ys = ret ys) : ∀ (n i : Nat) (ys : List β), i ≤ a.length → a.length - i < n → ys.length = a.length → L n (i : Int) ys = ret (ys.take i ++ (a.drop i).map f)
  | 0, i, ys, hi, hn, hy => by omega
  | n + 1, i, ys, hi, hn, hy => by
    by_cases h : i < a.length
    · rw [h1 n i ys h hy, map_loop f h1 h2 n (i + 1) _ h (by omega) (by simpa using hy)]
      congr 1
      rw [List.drop_eq_getElem_cons h, List.map_cons]
      rw [List.take_add_one]
      rw [List.take_set_of_le (by omega)]
      have : (ys.set i (f a[i]))[i]? = some (f a[i]) := List.getElem?_set_self (by omega)
      rw [this]
      simp
    · have : i = a.length := by omega
      subst this
      rw [h2, List.drop_length, ← hy, List.take_length]
      simp
theorem map_loop0 {α β A : Type} {ret : List β → Option A} {L : Nat → Int → List β → Option A} {a : List α} (f : α → β) (z : β)
    (h1 : ∀ (n i : Nat) (ys : List β) (hi : i < a.length), ys.length = a.length → L (n + 1) (i : Int) ys = L n ((i + 1 : Nat) : Int) (ys.set i (f a[i])))
    (h2 : ∀ (n : Nat) (ys : List β), L (n + 1) (a.length : Int) ys = ret ys) {n : Nat} (hn : a.length < n) : L n 0 (List.replicate a.length z) = ret (a.map f) := by
  have := map_loop f h1 h2 n 0 (List.replicate a.length z) (Nat.zero_le _) (by omega) (by simp)
  simpa using this
theorem sz_loop {α A : Type} [Wt α] {ret : Int → Option A} {L : Nat → Int → Int → Option A} {a : List α}
    (h1 : ∀ (n i : Nat) (v : Int) (hi : i < a.length), szR v = true → L (n + 1) v (i : Int) = if (w a[i] : Int) ≤ v then L n (v - w a[i]) ((i + 1 : Nat) : Int) else ret (-1))
    (h2 : ∀ (n : Nat) (v : Int), L (n + 1) v (a.length : Int) = ret v) : ∀ (n i : Nat) (v : Int), i ≤ a.length → a.length - i < n → szR v = true → L n v (i : Int) = ret (if (((a.drop i).map w).sum : Int) ≤ v then v - (((a.drop i).map w).sum : Nat) else -1)
  | 0, i, v, hi, hn, hv => by omega
  | n + 1, i, v, hi, hn, hv => by
    by_cases h : i < a.length
    · rw [h1 n i v h hv, List.drop_eq_getElem_cons h, List.map_cons, List.sum_cons]
      rw [szR_iff] at hv
      by_cases hw : (w a[i] : Int) ≤ v
      · rw [if_pos hw, sz_loop h1 h2 n (i + 1) _ h (by omega) (szR_iff.2 (by omega))]
        congr 1
        split <;> split <;> omega
      · rw [if_neg hw, if_neg (by omega)]
    · have : i = a.length := by omega
      subst this
      rw [h2, List.drop_length]
      rw [szR_iff] at hv
      simp [hv.1]
theorem sz_loop0 {α A : Type} [Wt α] {ret : Int → Option A} {L : Nat → Int → Int → Option A} {a : List α}
    (h1 : ∀ (n i : Nat) (v : Int) (hi : i < a.length), szR v = true → L (n + 1) v (i : Int) = if (w a[i] : Int) ≤ v then L n (v - w a[i]) ((i + 1 : Nat) : Int) else ret (-1))
    (h2 : ∀ (n : Nat) (v : Int), L (n + 1) v (a.length : Int) = ret v) {l : Int} (h0 : 0 ≤ l) (hl : l ≤ 1048576) {n : Nat} (hn : a.length < n) :
    (bif decide (l - (a.length : Int) < 0) then ret (-1) else L n (l - (a.length : Int)) 0) = ret (szF a l) := by
  by_cases hc : (a.length : Int) ≤ l
  · rw [bif_neg (by omega)]
    have := sz_loop h1 h2 n 0 (l - (a.length : Int)) (Nat.zero_le _) (by omega) (szR_iff.2 (by omega))
    rw [Int.natCast_zero] at this
    rw [this, List.drop_zero]
    unfold szF
    rw [w_list]
    congr 1
    split <;> split <;> omega
  · rw [bif_pos (by omega), szF_neg (by rw [w_list]; omega)]
end Go.Vp
