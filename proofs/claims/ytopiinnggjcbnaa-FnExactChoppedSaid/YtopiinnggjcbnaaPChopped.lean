/- FnExactChopped, the plain functions: what the Go functions that the law reaches compute, and that it is what is told here. By program and by hand. -/
import Derived.Test.YtopiinnggjcbnaaVP
set_option linter.unusedVariables false
namespace Go.Vp
open Go Go.Vi Wt
instance : Wt (Str × Unit) := inferInstance
instance : DecidableEq (Str × Unit) := inferInstance
instance : Wt (Str × (Str × Unit)) := inferInstance
instance : DecidableEq (Str × (Str × Unit)) := inferInstance
instance : Wt (Bool × (Str × (Str × Unit))) := inferInstance
instance : DecidableEq (Bool × (Str × (Str × Unit))) := inferInstance
instance : Wt ((Str × (Str × Unit)) × Unit) := inferInstance
instance : DecidableEq ((Str × (Str × Unit)) × Unit) := inferInstance
instance : Wt ((Str × (Str × Unit)) × ((Str × (Str × Unit)) × Unit)) := inferInstance
instance : DecidableEq ((Str × (Str × Unit)) × ((Str × (Str × Unit)) × Unit)) := inferInstance
instance : Wt (Bool × ((Str × (Str × Unit)) × ((Str × (Str × Unit)) × Unit))) := inferInstance
instance : DecidableEq (Bool × ((Str × (Str × Unit)) × ((Str × (Str × Unit)) × Unit))) := inferInstance
instance : Wt (Int × (Str × Unit)) := inferInstance
instance : DecidableEq (Int × (Str × Unit)) := inferInstance
instance : Wt ((List (Int × (Str × Unit))) × Unit) := inferInstance
instance : DecidableEq ((List (Int × (Str × Unit))) × Unit) := inferInstance
instance : Wt ((List (Int × (Str × Unit))) × ((List (Int × (Str × Unit))) × Unit)) := inferInstance
instance : DecidableEq ((List (Int × (Str × Unit))) × ((List (Int × (Str × Unit))) × Unit)) := inferInstance
instance : Wt ((List (Int × (Str × Unit))) × ((List (Int × (Str × Unit))) × ((List (Int × (Str × Unit))) × Unit))) := inferInstance
instance : DecidableEq ((List (Int × (Str × Unit))) × ((List (Int × (Str × Unit))) × ((List (Int × (Str × Unit))) × Unit))) := inferInstance
instance : Wt ((List ((List (Int × (Str × Unit))) × ((List (Int × (Str × Unit))) × ((List (Int × (Str × Unit))) × Unit)))) × Unit) := inferInstance
instance : DecidableEq ((List ((List (Int × (Str × Unit))) × ((List (Int × (Str × Unit))) × ((List (Int × (Str × Unit))) × Unit)))) × Unit) := inferInstance
instance : Wt ((List Int) × ((List ((List (Int × (Str × Unit))) × ((List (Int × (Str × Unit))) × ((List (Int × (Str × Unit))) × Unit)))) × Unit)) := inferInstance
instance : DecidableEq ((List Int) × ((List ((List (Int × (Str × Unit))) × ((List (Int × (Str × Unit))) × ((List (Int × (Str × Unit))) × Unit)))) × Unit)) := inferInstance
instance : Wt (Int × ((List Int) × ((List ((List (Int × (Str × Unit))) × ((List (Int × (Str × Unit))) × ((List (Int × (Str × Unit))) × Unit)))) × Unit))) := inferInstance
instance : DecidableEq (Int × ((List Int) × ((List ((List (Int × (Str × Unit))) × ((List (Int × (Str × Unit))) × ((List (Int × (Str × Unit))) × Unit)))) × Unit))) := inferInstance
instance : Wt (Int × (Int × ((List Int) × ((List ((List (Int × (Str × Unit))) × ((List (Int × (Str × Unit))) × ((List (Int × (Str × Unit))) × Unit)))) × Unit)))) := inferInstance
instance : DecidableEq (Int × (Int × ((List Int) × ((List ((List (Int × (Str × Unit))) × ((List (Int × (Str × Unit))) × ((List (Int × (Str × Unit))) × Unit)))) × Unit)))) := inferInstance
instance : Wt (Int × (Int × (Int × ((List Int) × ((List ((List (Int × (Str × Unit))) × ((List (Int × (Str × Unit))) × ((List (Int × (Str × Unit))) × Unit)))) × Unit))))) := inferInstance
instance : DecidableEq (Int × (Int × (Int × ((List Int) × ((List ((List (Int × (Str × Unit))) × ((List (Int × (Str × Unit))) × ((List (Int × (Str × Unit))) × Unit)))) × Unit))))) := inferInstance
instance : Wt (Int × (Int × (Int × (Int × ((List Int) × ((List ((List (Int × (Str × Unit))) × ((List (Int × (Str × Unit))) × ((List (Int × (Str × Unit))) × Unit)))) × Unit)))))) := inferInstance
instance : DecidableEq (Int × (Int × (Int × (Int × ((List Int) × ((List ((List (Int × (Str × Unit))) × ((List (Int × (Str × Unit))) × ((List (Int × (Str × Unit))) × Unit)))) × Unit)))))) := inferInstance
instance : Wt (Int × (Int × (Int × (Int × (Int × ((List Int) × ((List ((List (Int × (Str × Unit))) × ((List (Int × (Str × Unit))) × ((List (Int × (Str × Unit))) × Unit)))) × Unit))))))) := inferInstance
instance : DecidableEq (Int × (Int × (Int × (Int × (Int × ((List Int) × ((List ((List (Int × (Str × Unit))) × ((List (Int × (Str × Unit))) × ((List (Int × (Str × Unit))) × Unit)))) × Unit))))))) := inferInstance
instance : Wt ((List Str) × Unit) := inferInstance
instance : DecidableEq ((List Str) × Unit) := inferInstance
instance : Wt (Int × ((List Str) × Unit)) := inferInstance
instance : DecidableEq (Int × ((List Str) × Unit)) := inferInstance
instance : Wt ((List (Bool × (Str × (Str × Unit)))) × Unit) := inferInstance
instance : DecidableEq ((List (Bool × (Str × (Str × Unit)))) × Unit) := inferInstance
instance : Wt ((Bool × ((Str × (Str × Unit)) × ((Str × (Str × Unit)) × Unit))) × ((List (Bool × (Str × (Str × Unit)))) × Unit)) := inferInstance
instance : DecidableEq ((Bool × ((Str × (Str × Unit)) × ((Str × (Str × Unit)) × Unit))) × ((List (Bool × (Str × (Str × Unit)))) × Unit)) := inferInstance
instance : Wt ((Bool × ((Str × (Str × Unit)) × ((Str × (Str × Unit)) × Unit))) × ((Bool × ((Str × (Str × Unit)) × ((Str × (Str × Unit)) × Unit))) × ((List (Bool × (Str × (Str × Unit)))) × Unit))) := inferInstance
instance : DecidableEq ((Bool × ((Str × (Str × Unit)) × ((Str × (Str × Unit)) × Unit))) × ((Bool × ((Str × (Str × Unit)) × ((Str × (Str × Unit)) × Unit))) × ((List (Bool × (Str × (Str × Unit)))) × Unit))) := inferInstance
instance : Wt ((Bool × ((Str × (Str × Unit)) × ((Str × (Str × Unit)) × Unit))) × ((Bool × ((Str × (Str × Unit)) × ((Str × (Str × Unit)) × Unit))) × ((Bool × ((Str × (Str × Unit)) × ((Str × (Str × Unit)) × Unit))) × ((List (Bool × (Str × (Str × Unit)))) × Unit)))) := inferInstance
instance : DecidableEq ((Bool × ((Str × (Str × Unit)) × ((Str × (Str × Unit)) × Unit))) × ((Bool × ((Str × (Str × Unit)) × ((Str × (Str × Unit)) × Unit))) × ((Bool × ((Str × (Str × Unit)) × ((Str × (Str × Unit)) × Unit))) × ((List (Bool × (Str × (Str × Unit)))) × Unit)))) := inferInstance
instance : Wt ((Bool × (Str × (Str × Unit))) × ((Bool × ((Str × (Str × Unit)) × ((Str × (Str × Unit)) × Unit))) × ((Bool × ((Str × (Str × Unit)) × ((Str × (Str × Unit)) × Unit))) × ((Bool × ((Str × (Str × Unit)) × ((Str × (Str × Unit)) × Unit))) × ((List (Bool × (Str × (Str × Unit)))) × Unit))))) := inferInstance
instance : DecidableEq ((Bool × (Str × (Str × Unit))) × ((Bool × ((Str × (Str × Unit)) × ((Str × (Str × Unit)) × Unit))) × ((Bool × ((Str × (Str × Unit)) × ((Str × (Str × Unit)) × Unit))) × ((Bool × ((Str × (Str × Unit)) × ((Str × (Str × Unit)) × Unit))) × ((List (Bool × (Str × (Str × Unit)))) × Unit))))) := inferInstance
instance : Wt (Int × ((Bool × (Str × (Str × Unit))) × ((Bool × ((Str × (Str × Unit)) × ((Str × (Str × Unit)) × Unit))) × ((Bool × ((Str × (Str × Unit)) × ((Str × (Str × Unit)) × Unit))) × ((Bool × ((Str × (Str × Unit)) × ((Str × (Str × Unit)) × Unit))) × ((List (Bool × (Str × (Str × Unit)))) × Unit)))))) := inferInstance
instance : DecidableEq (Int × ((Bool × (Str × (Str × Unit))) × ((Bool × ((Str × (Str × Unit)) × ((Str × (Str × Unit)) × Unit))) × ((Bool × ((Str × (Str × Unit)) × ((Str × (Str × Unit)) × Unit))) × ((Bool × ((Str × (Str × Unit)) × ((Str × (Str × Unit)) × Unit))) × ((List (Bool × (Str × (Str × Unit)))) × Unit)))))) := inferInstance
instance : Wt ((Bool × (Str × (Str × Unit))) × Unit) := inferInstance
instance : DecidableEq ((Bool × (Str × (Str × Unit))) × Unit) := inferInstance
instance : Wt ((Bool × ((Str × (Str × Unit)) × ((Str × (Str × Unit)) × Unit))) × ((Bool × (Str × (Str × Unit))) × Unit)) := inferInstance
instance : DecidableEq ((Bool × ((Str × (Str × Unit)) × ((Str × (Str × Unit)) × Unit))) × ((Bool × (Str × (Str × Unit))) × Unit)) := inferInstance
instance : Wt ((Bool × (Str × (Str × Unit))) × ((Bool × ((Str × (Str × Unit)) × ((Str × (Str × Unit)) × Unit))) × ((Bool × (Str × (Str × Unit))) × Unit))) := inferInstance
instance : DecidableEq ((Bool × (Str × (Str × Unit))) × ((Bool × ((Str × (Str × Unit)) × ((Str × (Str × Unit)) × Unit))) × ((Bool × (Str × (Str × Unit))) × Unit))) := inferInstance
instance : Wt (Int × ((Bool × (Str × (Str × Unit))) × ((Bool × ((Str × (Str × Unit)) × ((Str × (Str × Unit)) × Unit))) × ((Bool × (Str × (Str × Unit))) × Unit)))) := inferInstance
instance : DecidableEq (Int × ((Bool × (Str × (Str × Unit))) × ((Bool × ((Str × (Str × Unit)) × ((Str × (Str × Unit)) × Unit))) × ((Bool × (Str × (Str × Unit))) × Unit)))) := inferInstance
instance : Wt ((Int × ((Bool × (Str × (Str × Unit))) × ((Bool × ((Str × (Str × Unit)) × ((Str × (Str × Unit)) × Unit))) × ((Bool × (Str × (Str × Unit))) × Unit)))) × Unit) := inferInstance
instance : DecidableEq ((Int × ((Bool × (Str × (Str × Unit))) × ((Bool × ((Str × (Str × Unit)) × ((Str × (Str × Unit)) × Unit))) × ((Bool × (Str × (Str × Unit))) × Unit)))) × Unit) := inferInstance
instance : Wt ((Int × ((Bool × (Str × (Str × Unit))) × ((Bool × ((Str × (Str × Unit)) × ((Str × (Str × Unit)) × Unit))) × ((Bool × ((Str × (Str × Unit)) × ((Str × (Str × Unit)) × Unit))) × ((Bool × ((Str × (Str × Unit)) × ((Str × (Str × Unit)) × Unit))) × ((List (Bool × (Str × (Str × Unit)))) × Unit)))))) × ((Int × ((Bool × (Str × (Str × Unit))) × ((Bool × ((Str × (Str × Unit)) × ((Str × (Str × Unit)) × Unit))) × ((Bool × (Str × (Str × Unit))) × Unit)))) × Unit)) := inferInstance
instance : DecidableEq ((Int × ((Bool × (Str × (Str × Unit))) × ((Bool × ((Str × (Str × Unit)) × ((Str × (Str × Unit)) × Unit))) × ((Bool × ((Str × (Str × Unit)) × ((Str × (Str × Unit)) × Unit))) × ((Bool × ((Str × (Str × Unit)) × ((Str × (Str × Unit)) × Unit))) × ((List (Bool × (Str × (Str × Unit)))) × Unit)))))) × ((Int × ((Bool × (Str × (Str × Unit))) × ((Bool × ((Str × (Str × Unit)) × ((Str × (Str × Unit)) × Unit))) × ((Bool × (Str × (Str × Unit))) × Unit)))) × Unit)) := inferInstance
instance : Wt ((Int × ((List Str) × Unit)) × ((Int × ((Bool × (Str × (Str × Unit))) × ((Bool × ((Str × (Str × Unit)) × ((Str × (Str × Unit)) × Unit))) × ((Bool × ((Str × (Str × Unit)) × ((Str × (Str × Unit)) × Unit))) × ((Bool × ((Str × (Str × Unit)) × ((Str × (Str × Unit)) × Unit))) × ((List (Bool × (Str × (Str × Unit)))) × Unit)))))) × ((Int × ((Bool × (Str × (Str × Unit))) × ((Bool × ((Str × (Str × Unit)) × ((Str × (Str × Unit)) × Unit))) × ((Bool × (Str × (Str × Unit))) × Unit)))) × Unit))) := inferInstance
instance : DecidableEq ((Int × ((List Str) × Unit)) × ((Int × ((Bool × (Str × (Str × Unit))) × ((Bool × ((Str × (Str × Unit)) × ((Str × (Str × Unit)) × Unit))) × ((Bool × ((Str × (Str × Unit)) × ((Str × (Str × Unit)) × Unit))) × ((Bool × ((Str × (Str × Unit)) × ((Str × (Str × Unit)) × Unit))) × ((List (Bool × (Str × (Str × Unit)))) × Unit)))))) × ((Int × ((Bool × (Str × (Str × Unit))) × ((Bool × ((Str × (Str × Unit)) × ((Str × (Str × Unit)) × Unit))) × ((Bool × (Str × (Str × Unit))) × Unit)))) × Unit))) := inferInstance
instance : Wt ((Int × (Int × (Int × (Int × (Int × ((List Int) × ((List ((List (Int × (Str × Unit))) × ((List (Int × (Str × Unit))) × ((List (Int × (Str × Unit))) × Unit)))) × Unit))))))) × ((Int × ((List Str) × Unit)) × ((Int × ((Bool × (Str × (Str × Unit))) × ((Bool × ((Str × (Str × Unit)) × ((Str × (Str × Unit)) × Unit))) × ((Bool × ((Str × (Str × Unit)) × ((Str × (Str × Unit)) × Unit))) × ((Bool × ((Str × (Str × Unit)) × ((Str × (Str × Unit)) × Unit))) × ((List (Bool × (Str × (Str × Unit)))) × Unit)))))) × ((Int × ((Bool × (Str × (Str × Unit))) × ((Bool × ((Str × (Str × Unit)) × ((Str × (Str × Unit)) × Unit))) × ((Bool × (Str × (Str × Unit))) × Unit)))) × Unit)))) := inferInstance
instance : DecidableEq ((Int × (Int × (Int × (Int × (Int × ((List Int) × ((List ((List (Int × (Str × Unit))) × ((List (Int × (Str × Unit))) × ((List (Int × (Str × Unit))) × Unit)))) × Unit))))))) × ((Int × ((List Str) × Unit)) × ((Int × ((Bool × (Str × (Str × Unit))) × ((Bool × ((Str × (Str × Unit)) × ((Str × (Str × Unit)) × Unit))) × ((Bool × ((Str × (Str × Unit)) × ((Str × (Str × Unit)) × Unit))) × ((Bool × ((Str × (Str × Unit)) × ((Str × (Str × Unit)) × Unit))) × ((List (Bool × (Str × (Str × Unit)))) × Unit)))))) × ((Int × ((Bool × (Str × (Str × Unit))) × ((Bool × ((Str × (Str × Unit)) × ((Str × (Str × Unit)) × Unit))) × ((Bool × (Str × (Str × Unit))) × Unit)))) × Unit)))) := inferInstance
instance : Wt ((Bool × ((Str × (Str × Unit)) × ((Str × (Str × Unit)) × Unit))) × ((Int × (Int × (Int × (Int × (Int × ((List Int) × ((List ((List (Int × (Str × Unit))) × ((List (Int × (Str × Unit))) × ((List (Int × (Str × Unit))) × Unit)))) × Unit))))))) × ((Int × ((List Str) × Unit)) × ((Int × ((Bool × (Str × (Str × Unit))) × ((Bool × ((Str × (Str × Unit)) × ((Str × (Str × Unit)) × Unit))) × ((Bool × ((Str × (Str × Unit)) × ((Str × (Str × Unit)) × Unit))) × ((Bool × ((Str × (Str × Unit)) × ((Str × (Str × Unit)) × Unit))) × ((List (Bool × (Str × (Str × Unit)))) × Unit)))))) × ((Int × ((Bool × (Str × (Str × Unit))) × ((Bool × ((Str × (Str × Unit)) × ((Str × (Str × Unit)) × Unit))) × ((Bool × (Str × (Str × Unit))) × Unit)))) × Unit))))) := inferInstance
instance : DecidableEq ((Bool × ((Str × (Str × Unit)) × ((Str × (Str × Unit)) × Unit))) × ((Int × (Int × (Int × (Int × (Int × ((List Int) × ((List ((List (Int × (Str × Unit))) × ((List (Int × (Str × Unit))) × ((List (Int × (Str × Unit))) × Unit)))) × Unit))))))) × ((Int × ((List Str) × Unit)) × ((Int × ((Bool × (Str × (Str × Unit))) × ((Bool × ((Str × (Str × Unit)) × ((Str × (Str × Unit)) × Unit))) × ((Bool × ((Str × (Str × Unit)) × ((Str × (Str × Unit)) × Unit))) × ((Bool × ((Str × (Str × Unit)) × ((Str × (Str × Unit)) × Unit))) × ((List (Bool × (Str × (Str × Unit)))) × Unit)))))) × ((Int × ((Bool × (Str × (Str × Unit))) × ((Bool × ((Str × (Str × Unit)) × ((Str × (Str × Unit)) × Unit))) × ((Bool × (Str × (Str × Unit))) × Unit)))) × Unit))))) := inferInstance
instance : Wt ((Bool × (Str × (Str × Unit))) × ((Bool × ((Str × (Str × Unit)) × ((Str × (Str × Unit)) × Unit))) × ((Int × (Int × (Int × (Int × (Int × ((List Int) × ((List ((List (Int × (Str × Unit))) × ((List (Int × (Str × Unit))) × ((List (Int × (Str × Unit))) × Unit)))) × Unit))))))) × ((Int × ((List Str) × Unit)) × ((Int × ((Bool × (Str × (Str × Unit))) × ((Bool × ((Str × (Str × Unit)) × ((Str × (Str × Unit)) × Unit))) × ((Bool × ((Str × (Str × Unit)) × ((Str × (Str × Unit)) × Unit))) × ((Bool × ((Str × (Str × Unit)) × ((Str × (Str × Unit)) × Unit))) × ((List (Bool × (Str × (Str × Unit)))) × Unit)))))) × ((Int × ((Bool × (Str × (Str × Unit))) × ((Bool × ((Str × (Str × Unit)) × ((Str × (Str × Unit)) × Unit))) × ((Bool × (Str × (Str × Unit))) × Unit)))) × Unit)))))) := inferInstance
instance : DecidableEq ((Bool × (Str × (Str × Unit))) × ((Bool × ((Str × (Str × Unit)) × ((Str × (Str × Unit)) × Unit))) × ((Int × (Int × (Int × (Int × (Int × ((List Int) × ((List ((List (Int × (Str × Unit))) × ((List (Int × (Str × Unit))) × ((List (Int × (Str × Unit))) × Unit)))) × Unit))))))) × ((Int × ((List Str) × Unit)) × ((Int × ((Bool × (Str × (Str × Unit))) × ((Bool × ((Str × (Str × Unit)) × ((Str × (Str × Unit)) × Unit))) × ((Bool × ((Str × (Str × Unit)) × ((Str × (Str × Unit)) × Unit))) × ((Bool × ((Str × (Str × Unit)) × ((Str × (Str × Unit)) × Unit))) × ((List (Bool × (Str × (Str × Unit)))) × Unit)))))) × ((Int × ((Bool × (Str × (Str × Unit))) × ((Bool × ((Str × (Str × Unit)) × ((Str × (Str × Unit)) × Unit))) × ((Bool × (Str × (Str × Unit))) × Unit)))) × Unit)))))) := inferInstance
instance : Wt (Int × ((Bool × (Str × (Str × Unit))) × ((Bool × ((Str × (Str × Unit)) × ((Str × (Str × Unit)) × Unit))) × ((Int × (Int × (Int × (Int × (Int × ((List Int) × ((List ((List (Int × (Str × Unit))) × ((List (Int × (Str × Unit))) × ((List (Int × (Str × Unit))) × Unit)))) × Unit))))))) × ((Int × ((List Str) × Unit)) × ((Int × ((Bool × (Str × (Str × Unit))) × ((Bool × ((Str × (Str × Unit)) × ((Str × (Str × Unit)) × Unit))) × ((Bool × ((Str × (Str × Unit)) × ((Str × (Str × Unit)) × Unit))) × ((Bool × ((Str × (Str × Unit)) × ((Str × (Str × Unit)) × Unit))) × ((List (Bool × (Str × (Str × Unit)))) × Unit)))))) × ((Int × ((Bool × (Str × (Str × Unit))) × ((Bool × ((Str × (Str × Unit)) × ((Str × (Str × Unit)) × Unit))) × ((Bool × (Str × (Str × Unit))) × Unit)))) × Unit))))))) := inferInstance
instance : DecidableEq (Int × ((Bool × (Str × (Str × Unit))) × ((Bool × ((Str × (Str × Unit)) × ((Str × (Str × Unit)) × Unit))) × ((Int × (Int × (Int × (Int × (Int × ((List Int) × ((List ((List (Int × (Str × Unit))) × ((List (Int × (Str × Unit))) × ((List (Int × (Str × Unit))) × Unit)))) × Unit))))))) × ((Int × ((List Str) × Unit)) × ((Int × ((Bool × (Str × (Str × Unit))) × ((Bool × ((Str × (Str × Unit)) × ((Str × (Str × Unit)) × Unit))) × ((Bool × ((Str × (Str × Unit)) × ((Str × (Str × Unit)) × Unit))) × ((Bool × ((Str × (Str × Unit)) × ((Str × (Str × Unit)) × Unit))) × ((List (Bool × (Str × (Str × Unit)))) × Unit)))))) × ((Int × ((Bool × (Str × (Str × Unit))) × ((Bool × ((Str × (Str × Unit)) × ((Str × (Str × Unit)) × Unit))) × ((Bool × (Str × (Str × Unit))) × Unit)))) × Unit))))))) := inferInstance
instance : Wt (Int × (Int × ((Bool × (Str × (Str × Unit))) × ((Bool × ((Str × (Str × Unit)) × ((Str × (Str × Unit)) × Unit))) × ((Int × (Int × (Int × (Int × (Int × ((List Int) × ((List ((List (Int × (Str × Unit))) × ((List (Int × (Str × Unit))) × ((List (Int × (Str × Unit))) × Unit)))) × Unit))))))) × ((Int × ((List Str) × Unit)) × ((Int × ((Bool × (Str × (Str × Unit))) × ((Bool × ((Str × (Str × Unit)) × ((Str × (Str × Unit)) × Unit))) × ((Bool × ((Str × (Str × Unit)) × ((Str × (Str × Unit)) × Unit))) × ((Bool × ((Str × (Str × Unit)) × ((Str × (Str × Unit)) × Unit))) × ((List (Bool × (Str × (Str × Unit)))) × Unit)))))) × ((Int × ((Bool × (Str × (Str × Unit))) × ((Bool × ((Str × (Str × Unit)) × ((Str × (Str × Unit)) × Unit))) × ((Bool × (Str × (Str × Unit))) × Unit)))) × Unit)))))))) := inferInstance
instance : DecidableEq (Int × (Int × ((Bool × (Str × (Str × Unit))) × ((Bool × ((Str × (Str × Unit)) × ((Str × (Str × Unit)) × Unit))) × ((Int × (Int × (Int × (Int × (Int × ((List Int) × ((List ((List (Int × (Str × Unit))) × ((List (Int × (Str × Unit))) × ((List (Int × (Str × Unit))) × Unit)))) × Unit))))))) × ((Int × ((List Str) × Unit)) × ((Int × ((Bool × (Str × (Str × Unit))) × ((Bool × ((Str × (Str × Unit)) × ((Str × (Str × Unit)) × Unit))) × ((Bool × ((Str × (Str × Unit)) × ((Str × (Str × Unit)) × Unit))) × ((Bool × ((Str × (Str × Unit)) × ((Str × (Str × Unit)) × Unit))) × ((List (Bool × (Str × (Str × Unit)))) × Unit)))))) × ((Int × ((Bool × (Str × (Str × Unit))) × ((Bool × ((Str × (Str × Unit)) × ((Str × (Str × Unit)) × Unit))) × ((Bool × (Str × (Str × Unit))) × Unit)))) × Unit)))))))) := inferInstance
instance : Wt (Int × Unit) := inferInstance
instance : DecidableEq (Int × Unit) := inferInstance
instance : Wt (Int × (Int × Unit)) := inferInstance
instance : DecidableEq (Int × (Int × Unit)) := inferInstance
instance : Wt (Int × (Int × (Int × Unit))) := inferInstance
instance : DecidableEq (Int × (Int × (Int × Unit))) := inferInstance
instance : Wt (Int × (Int × (Int × (Int × Unit)))) := inferInstance
instance : DecidableEq (Int × (Int × (Int × (Int × Unit)))) := inferInstance
instance : Wt (Int × (Int × (Int × (Int × (Int × Unit))))) := inferInstance
instance : DecidableEq (Int × (Int × (Int × (Int × (Int × Unit))))) := inferInstance
def laws_toIntS_f (x : (List Int)) : (List Int) := x
def laws_toIntS_pre (x : (List Int)) : Bool := decide (w x ≤ 1048576)
def laws_toIntS_k (x : (List Int)) : Nat := x.length + 1
def brought (n a b : Int) : Int := if b < a ∨ n < a then a else if n > b then b else n
theorem brought_in {n a b : Int} (h : a ≤ b) : a ≤ brought n a b ∧ brought n a b ≤ b := by unfold brought; split <;> (try split) <;> omega
def spec_Brought_f (n a b : Int) : Int := brought n a b
def chopN (sizes : List Int) (b : Str) (j : Nat) : Nat := if 0 < sizes.length ∧ j < 399 then min b.length (brought (sizes.getD (j % sizes.length) 0) 1 1000).toNat else b.length
def chop (sizes : List Int) : Nat → Str → List Str → List Str
  | 0, _, out => out
  | m + 1, b, out => if b.length = 0 then out else chop sizes m (b.drop (chopN sizes b out.length)) (out ++ [b.take (chopN sizes b out.length)])
def spec_Chopped_f (b : Str) (sizes : List Int) : List Str := chop sizes b.length b []
def spec_Chopped_pre (b : Str) (sizes : List Int) : Bool := decide (b.length ≤ 1048576) && decide (sizes.length ≤ 1099511627776)
def spec_Chopped_k (b : Str) (_ : List Int) : Nat := b.length + 1
theorem chopN_le (sizes : List Int) (b : Str) (j : Nat) : chopN sizes b j ≤ b.length := by unfold chopN; split <;> omega
theorem chopN_pos (sizes : List Int) (b : Str) (j : Nat) (h : 0 < b.length) : 1 ≤ chopN sizes b j := by
  unfold chopN
  split
  · have := (brought_in (n := sizes.getD (j % sizes.length) 0) (a := 1) (b := 1000) (by omega)).1; omega
  · exact h
theorem chop_w (sizes : List Int) : ∀ (m : Nat) (b : Str) (out : List Str), (w (chop sizes m b out) : Nat) ≤ w out + 2 * b.length
  | 0, b, out => by simp [chop]
  | m + 1, b, out => by
    unfold chop
    split
    · omega
    · have h1 := chopN_le sizes b out.length
      have h2 := chopN_pos sizes b out.length (by omega)
      have ih := chop_w sizes m (b.drop (chopN sizes b out.length)) (out ++ [b.take (chopN sizes b out.length)])
      rw [w_snoc, List.length_take, List.length_drop] at ih
      omega
theorem tmod_at {i n : Nat} : ((i : Int).tmod (n : Int)) = ((i % n : Nat) : Int) := by
  rw [Int.tmod_eq_emod_of_nonneg (Int.natCast_nonneg _)]; rfl
def impl_Brought_f (n a b : Int) : Int := brought n a b
def impl_Chopped_f (b : Str) (sizes : List Int) : List Str := chop sizes b.length b []
def impl_Chopped_pre (b : Str) (sizes : List Int) : Bool := decide (b.length ≤ 1048576) && decide (sizes.length ≤ 1099511627776)
def impl_Chopped_k (b : Str) (_ : List Int) : Nat := b.length + 1
def laws_eqStringS_f (x y : (List Str)) : Bool := decide (x = y)
def laws_eqStringS_pre (x y : (List Str)) : Bool := decide (w x ≤ 4611686018427387904)
def laws_eqStringS_k (x y : (List Str)) : Nat := x.length + 1
def laws_eqIntS_f (x y : (List Int)) : Bool := decide (x = y)
def laws_eqIntS_pre (x y : (List Int)) : Bool := decide (w x ≤ 4611686018427387904)
def laws_eqIntS_k (x y : (List Int)) : Nat := x.length + 1
def laws_markIntS_f (a : List Int) (k : Int) : Int × List Int := markL (fun _ k => (k + 1, k)) a k
def laws_markIntS_pre (a : List Int) (k : Int) : Bool := decide (0 ≤ k) && decide (k ≤ 1099511627776) && decide (a.length ≤ 1099511627776)
def laws_markIntS_k (a : List Int) (_ : Int) : Nat := a.length + 1
def mDig : Nat → Int → Str → Str
  | 0, _, acc => acc
  | n + 1, v, acc => if v > 0 then mDig n (v.tdiv 10) (toStr [IntKind.wrap .u8 (IntKind.wrap .i64 (48 + v.tmod 10))] ++ acc) else acc
def laws_markText_f (k : Int) : Str := if k ≤ 0 then [109, 48] else [109] ++ mDig 19 k []
def laws_markText_pre (k : Int) : Bool := decide (k ≤ 2305843009213693952)
def laws_markText_k (_ : Int) : Nat := 20
theorem toStr_one (n : Int) : (toStr [n]).length = 1 := rfl
def laws_markStringS_f (a : List Str) (k : Int) : Int × List Str := markL (fun _ k => (k + 1, laws_markText_f k)) a k
def laws_markStringS_pre (a : List Str) (k : Int) : Bool := decide (0 ≤ k) && decide (k ≤ 1099511627776) && decide (a.length ≤ 1099511627776)
def laws_markStringS_k (a : List Str) (_ : Int) : Nat := a.length + 1
def heldStr (x : Str) (k : Int) : Option Int := if x = laws_markText_f k then some (k + 1) else none
def laws_heldStringS_f (a : List Str) (k : Int) : Int := heldL heldStr a k
def laws_heldStringS_pre (a : List Str) (k : Int) : Bool := decide (0 ≤ k) && decide (k ≤ 1099511627776) && decide (a.length ≤ 1099511627776)
def laws_heldStringS_k (a : List Str) (_ : Int) : Nat := a.length + 1
def laws_FnExactChopped_f (_ : Str) (_ : List Int) : Bool := true
def laws_FnExactChopped_pre (a : Str) (b : List Int) : Bool := fit .str a && fit (.sl (.int .i64)) b
def laws_toIntS_t1 {A : Type} (ret : (List Int) → Option A) (rec1 : Int → (List Int) → Option A) (a : (List Int)) (v1 : Int) (v2 : (List Int)) : Option A :=
  bif (decide (v1 < (a.length : Int))) then (chk (decide (0 ≤ v1) && decide (v1 < (a.length : Int))) (chk (decide (0 ≤ v1) && decide (v1 < (v2.length : Int))) (rec1 (IntKind.wrap .i64 (v1 + (1 : Int))) (v2.set v1.toNat (a.getD v1.toNat (0 : Int)))))) else (ret v2)
def laws_toIntS_l1 {A : Type} (ret : (List Int) → Option A) (k : Nat) (a : (List Int)) : Nat → Int → (List Int) → Option A
  | 0 => fun _ _ => none
  | n + 1 => fun v1 v2 => laws_toIntS_t1 ret (laws_toIntS_l1 ret k a n) a v1 v2
def laws_toIntS_t0 {A : Type} (ret : (List Int) → Option A) (run1 : (List Int) → Int → (List Int) → Option A) (a : (List Int)) : Option A :=
  chk (decide (0 ≤ (a.length : Int)) && decide ((a.length : Int) ≤ (a.length : Int)) && decide ((a.length : Int) * 8 ≤ maxBytes)) (run1 a (0 : Int) (List.replicate (a.length : Int).toNat (0 : Int)))
def laws_toIntS_s {A : Type} (ret : (List Int) → Option A) (k : Nat) (a : (List Int)) : Option A := laws_toIntS_t0 ret (fun a_ v1_ v2_ => laws_toIntS_l1 ret k a_ k v1_ v2_) a
def spec_Brought_s {A : Type} (ret : Int → Option A) (n : Int) (least : Int) (most : Int) : Option A :=
  bif (decide (most < least)) then (ret least) else (bif (decide (n < least)) then (ret least) else (bif (decide (n > most)) then (ret most) else (ret n)))
def spec_Chopped_j8 {A : Type} (ret : (List Str) → Option A) (v8 : Str) (v9 : Int) (v10 : (List Str)) (rec1 : (Str → Int → (List Str) → Option A)) (v26 : Int) : Option A :=
  chk (decide (0 ≤ (0 : Int)) && decide ((0 : Int) ≤ v26) && decide (v26 ≤ (v8.length : Int))) (chk (decide ((v10.length + ([((v8.take v26.toNat).drop (0 : Int).toNat)] : (List Str)).length) * 16 ≤ maxBytes)) (chk (decide (0 ≤ v26) && decide (v26 ≤ (v8.length : Int)) && decide ((v8.length : Int) ≤ (v8.length : Int))) (rec1 ((v8.take (v8.length : Int).toNat).drop v26.toNat) (IntKind.wrap .i64 (v9 + (1 : Int))) (v10 ++ ([((v8.take v26.toNat).drop (0 : Int).toNat)] : (List Str))))))
def spec_Chopped_j9 {A : Type} (ret : (List Str) → Option A) (v8 : Str) (v9 : Int) (v10 : (List Str)) (rec1 : (Str → Int → (List Str) → Option A)) (v24 : Int) : Option A :=
  bif (decide (v24 > (v8.length : Int))) then (spec_Chopped_j8 ret v8 v9 v10 rec1 (v8.length : Int)) else (spec_Chopped_j8 ret v8 v9 v10 rec1 v24)
def spec_Chopped_j7 {A : Type} (ret : (List Str) → Option A) (sizes : (List Int)) (v8 : Str) (v9 : Int) (v10 : (List Str)) (rec1 : (Str → Int → (List Str) → Option A)) (v22 : Bool) : Option A :=
  bif v22 then (chk ((sizes.length : Int) != 0) (chk (decide (0 ≤ (v9.tmod (sizes.length : Int))) && decide ((v9.tmod (sizes.length : Int)) < (sizes.length : Int))) ((let y23 : Int := spec_Brought_f (sizes.getD (v9.tmod (sizes.length : Int)).toNat (0 : Int)) (1 : Int) (1000 : Int); spec_Chopped_j9 ret v8 v9 v10 rec1 y23)))) else (spec_Chopped_j9 ret v8 v9 v10 rec1 (v8.length : Int))
def spec_Chopped_t1 {A : Type} (ret : (List Str) → Option A) (rec1 : Str → Int → (List Str) → Option A) (sizes : (List Int)) (v8 : Str) (v9 : Int) (v10 : (List Str)) : Option A :=
  bif (decide ((v8.length : Int) > (0 : Int))) then (bif (decide ((sizes.length : Int) > (0 : Int))) then (spec_Chopped_j7 ret sizes v8 v9 v10 rec1 (decide ((v10.length : Int) < (399 : Int)))) else (spec_Chopped_j7 ret sizes v8 v9 v10 rec1 false)) else (ret v10)
def spec_Chopped_l1 {A : Type} (ret : (List Str) → Option A) (k : Nat) (sizes : (List Int)) : Nat → Str → Int → (List Str) → Option A
  | 0 => fun _ _ _ => none
  | n + 1 => fun v8 v9 v10 => spec_Chopped_t1 ret (spec_Chopped_l1 ret k sizes n) sizes v8 v9 v10
def spec_Chopped_t0 {A : Type} (ret : (List Str) → Option A) (run1 : (List Int) → Str → Int → (List Str) → Option A) (b : Str) (sizes : (List Int)) : Option A :=
  run1 sizes b (0 : Int) ([] : (List Str))
def spec_Chopped_s {A : Type} (ret : (List Str) → Option A) (k : Nat) (b : Str) (sizes : (List Int)) : Option A := spec_Chopped_t0 ret (fun sizes_ v8_ v9_ v10_ => spec_Chopped_l1 ret k sizes_ k v8_ v9_ v10_) b sizes
def impl_Brought_s {A : Type} (ret : Int → Option A) (n : Int) (least : Int) (most : Int) : Option A :=
  ret (mxI least (mnI n most))
def impl_Chopped_j6 {A : Type} (ret : (List Str) → Option A) (v6 : Str) (v7 : (List Str)) (rec1 : (Str → (List Str) → Option A)) (v18 : Int) : Option A :=
  chk (decide (0 ≤ (0 : Int)) && decide ((0 : Int) ≤ v18) && decide (v18 ≤ (v6.length : Int))) (chk (decide ((v7.length + ([((v6.take v18.toNat).drop (0 : Int).toNat)] : (List Str)).length) * 16 ≤ maxBytes)) (chk (decide (0 ≤ v18) && decide (v18 ≤ (v6.length : Int)) && decide ((v6.length : Int) ≤ (v6.length : Int))) (rec1 ((v6.take (v6.length : Int).toNat).drop v18.toNat) (v7 ++ ([((v6.take v18.toNat).drop (0 : Int).toNat)] : (List Str))))))
def impl_Chopped_j5 {A : Type} (ret : (List Str) → Option A) (sizes : (List Int)) (v6 : Str) (v7 : (List Str)) (rec1 : (Str → (List Str) → Option A)) (v16 : Bool) : Option A :=
  bif v16 then (chk ((sizes.length : Int) != 0) (chk (decide (0 ≤ ((v7.length : Int).tmod (sizes.length : Int))) && decide (((v7.length : Int).tmod (sizes.length : Int)) < (sizes.length : Int))) ((let y17 : Int := impl_Brought_f (sizes.getD ((v7.length : Int).tmod (sizes.length : Int)).toNat (0 : Int)) (1 : Int) (1000 : Int); impl_Chopped_j6 ret v6 v7 rec1 (mnI (v6.length : Int) y17))))) else (impl_Chopped_j6 ret v6 v7 rec1 (v6.length : Int))
def impl_Chopped_t1 {A : Type} (ret : (List Str) → Option A) (rec1 : Str → (List Str) → Option A) (sizes : (List Int)) (v6 : Str) (v7 : (List Str)) : Option A :=
  bif (!(v6 == ([] : Str))) then (bif (decide ((sizes.length : Int) > (0 : Int))) then (impl_Chopped_j5 ret sizes v6 v7 rec1 (decide ((v7.length : Int) < (399 : Int)))) else (impl_Chopped_j5 ret sizes v6 v7 rec1 false)) else (ret v7)
def impl_Chopped_l1 {A : Type} (ret : (List Str) → Option A) (k : Nat) (sizes : (List Int)) : Nat → Str → (List Str) → Option A
  | 0 => fun _ _ => none
  | n + 1 => fun v6 v7 => impl_Chopped_t1 ret (impl_Chopped_l1 ret k sizes n) sizes v6 v7
def impl_Chopped_t0 {A : Type} (ret : (List Str) → Option A) (run1 : (List Int) → Str → (List Str) → Option A) (b : Str) (sizes : (List Int)) : Option A :=
  run1 sizes b ([] : (List Str))
def impl_Chopped_s {A : Type} (ret : (List Str) → Option A) (k : Nat) (b : Str) (sizes : (List Int)) : Option A := impl_Chopped_t0 ret (fun sizes_ v6_ v7_ => impl_Chopped_l1 ret k sizes_ k v6_ v7_) b sizes
def laws_eqStringS_t1 {A : Type} (ret : Bool → Option A) (rec1 : Int → Option A) (a : (List Str)) (b : (List Str)) (v1 : Int) : Option A :=
  bif (decide (v1 < (a.length : Int))) then (chk (decide (0 ≤ v1) && decide (v1 < (a.length : Int))) (chk (decide (0 ≤ v1) && decide (v1 < (b.length : Int))) (bif (!((a.getD v1.toNat ([] : Str)) == (b.getD v1.toNat ([] : Str)))) then (ret false) else (rec1 (IntKind.wrap .i64 (v1 + (1 : Int))))))) else (ret true)
def laws_eqStringS_l1 {A : Type} (ret : Bool → Option A) (k : Nat) (a : (List Str)) (b : (List Str)) : Nat → Int → Option A
  | 0 => fun _ => none
  | n + 1 => fun v1 => laws_eqStringS_t1 ret (laws_eqStringS_l1 ret k a b n) a b v1
def laws_eqStringS_t0 {A : Type} (ret : Bool → Option A) (run1 : (List Str) → (List Str) → Int → Option A) (a : (List Str)) (b : (List Str)) : Option A :=
  bif ((a.length : Int) != (b.length : Int)) then (ret false) else (run1 a b (0 : Int))
def laws_eqStringS_s {A : Type} (ret : Bool → Option A) (k : Nat) (a : (List Str)) (b : (List Str)) : Option A := laws_eqStringS_t0 ret (fun a_ b_ v1_ => laws_eqStringS_l1 ret k a_ b_ k v1_) a b
def laws_eqIntS_t1 {A : Type} (ret : Bool → Option A) (rec1 : Int → Option A) (a : (List Int)) (b : (List Int)) (v1 : Int) : Option A :=
  bif (decide (v1 < (a.length : Int))) then (chk (decide (0 ≤ v1) && decide (v1 < (a.length : Int))) (chk (decide (0 ≤ v1) && decide (v1 < (b.length : Int))) (bif ((a.getD v1.toNat (0 : Int)) != (b.getD v1.toNat (0 : Int))) then (ret false) else (rec1 (IntKind.wrap .i64 (v1 + (1 : Int))))))) else (ret true)
def laws_eqIntS_l1 {A : Type} (ret : Bool → Option A) (k : Nat) (a : (List Int)) (b : (List Int)) : Nat → Int → Option A
  | 0 => fun _ => none
  | n + 1 => fun v1 => laws_eqIntS_t1 ret (laws_eqIntS_l1 ret k a b n) a b v1
def laws_eqIntS_t0 {A : Type} (ret : Bool → Option A) (run1 : (List Int) → (List Int) → Int → Option A) (a : (List Int)) (b : (List Int)) : Option A :=
  bif ((a.length : Int) != (b.length : Int)) then (ret false) else (run1 a b (0 : Int))
def laws_eqIntS_s {A : Type} (ret : Bool → Option A) (k : Nat) (a : (List Int)) (b : (List Int)) : Option A := laws_eqIntS_t0 ret (fun a_ b_ v1_ => laws_eqIntS_l1 ret k a_ b_ k v1_) a b
def laws_markIntS_t1 {A : Type} (ret : Int × (List Int) → Option A) (rec1 : Int → Int → (List Int) → Option A) (v1 : Int) (v2 : Int) (v3 : (List Int)) : Option A :=
  bif (decide (v2 < (v3.length : Int))) then (chk (decide (0 ≤ v2) && decide (v2 < (v3.length : Int))) (rec1 (IntKind.wrap .i64 (v1 + (1 : Int))) (IntKind.wrap .i64 (v2 + (1 : Int))) (v3.set v2.toNat v1))) else (ret (v1, v3))
def laws_markIntS_l1 {A : Type} (ret : Int × (List Int) → Option A) (k : Nat) : Nat → Int → Int → (List Int) → Option A
  | 0 => fun _ _ _ => none
  | n + 1 => fun v1 v2 v3 => laws_markIntS_t1 ret (laws_markIntS_l1 ret k n) v1 v2 v3
def laws_markIntS_t0 {A : Type} (ret : Int × (List Int) → Option A) (run1 : Int → Int → (List Int) → Option A) (a : (List Int)) (a_k : Int) : Option A :=
  run1 a_k (0 : Int) a
def laws_markIntS_s {A : Type} (ret : Int × (List Int) → Option A) (k : Nat) (a : (List Int)) (a_k : Int) : Option A := laws_markIntS_t0 ret (fun v1_ v2_ v3_ => laws_markIntS_l1 ret k k v1_ v2_ v3_) a a_k
def laws_markText_t1 {A : Type} (ret : Str → Option A) (rec1 : Int → Str → Option A) (v1 : Int) (v2 : Str) : Option A :=
  bif (decide (v1 > (0 : Int))) then (chk (decide ((toStr ([(IntKind.wrap .u8 (IntKind.wrap .i64 ((48 : Int) + (v1.tmod (10 : Int)))))] : (List Int))).length + v2.length ≤ 9223372036854775807)) (rec1 (IntKind.wrap .i64 (v1.tdiv (10 : Int))) ((toStr ([(IntKind.wrap .u8 (IntKind.wrap .i64 ((48 : Int) + (v1.tmod (10 : Int)))))] : (List Int))) ++ v2))) else (chk (decide (([109] : Str).length + v2.length ≤ 9223372036854775807)) (ret (([109] : Str) ++ v2)))
def laws_markText_l1 {A : Type} (ret : Str → Option A) (k : Nat) : Nat → Int → Str → Option A
  | 0 => fun _ _ => none
  | n + 1 => fun v1 v2 => laws_markText_t1 ret (laws_markText_l1 ret k n) v1 v2
def laws_markText_t0 {A : Type} (ret : Str → Option A) (run1 : Int → Str → Option A) (a_k : Int) : Option A :=
  bif (decide (a_k ≤ (0 : Int))) then (ret ([109, 48] : Str)) else (run1 a_k ([] : Str))
def laws_markText_s {A : Type} (ret : Str → Option A) (k : Nat) (a_k : Int) : Option A := laws_markText_t0 ret (fun v1_ v2_ => laws_markText_l1 ret k k v1_ v2_) a_k
def laws_markStringS_t1 {A : Type} (ret : Int × (List Str) → Option A) (rec1 : Int → Int → (List Str) → Option A) (v2 : Int) (v3 : Int) (v4 : (List Str)) : Option A :=
  bif (decide (v3 < (v4.length : Int))) then (chk (laws_markText_pre v2) ((let y9 : Str := laws_markText_f v2; chk (decide (0 ≤ v3) && decide (v3 < (v4.length : Int))) (rec1 (IntKind.wrap .i64 (v2 + (1 : Int))) (IntKind.wrap .i64 (v3 + (1 : Int))) (v4.set v3.toNat y9))))) else (ret (v2, v4))
def laws_markStringS_l1 {A : Type} (ret : Int × (List Str) → Option A) (k : Nat) : Nat → Int → Int → (List Str) → Option A
  | 0 => fun _ _ _ => none
  | n + 1 => fun v2 v3 v4 => laws_markStringS_t1 ret (laws_markStringS_l1 ret k n) v2 v3 v4
def laws_markStringS_t0 {A : Type} (ret : Int × (List Str) → Option A) (run1 : Int → Int → (List Str) → Option A) (a : (List Str)) (a_k : Int) : Option A :=
  run1 a_k (0 : Int) a
def laws_markStringS_s {A : Type} (ret : Int × (List Str) → Option A) (k : Nat) (a : (List Str)) (a_k : Int) : Option A := laws_markStringS_t0 ret (fun v2_ v3_ v4_ => laws_markStringS_l1 ret k k v2_ v3_ v4_) a a_k
def laws_heldStringS_t1 {A : Type} (ret : Int → Option A) (rec1 : Int → Int → Option A) (a : (List Str)) (v2 : Int) (v3 : Int) : Option A :=
  bif (decide (v3 < (a.length : Int))) then (chk (decide (0 ≤ v3) && decide (v3 < (a.length : Int))) (chk (laws_markText_pre v2) ((let y7 : Str := laws_markText_f v2; bif (!((a.getD v3.toNat ([] : Str)) == y7)) then (ret (-1 : Int)) else (rec1 (IntKind.wrap .i64 (v2 + (1 : Int))) (IntKind.wrap .i64 (v3 + (1 : Int)))))))) else (ret v2)
def laws_heldStringS_l1 {A : Type} (ret : Int → Option A) (k : Nat) (a : (List Str)) : Nat → Int → Int → Option A
  | 0 => fun _ _ => none
  | n + 1 => fun v2 v3 => laws_heldStringS_t1 ret (laws_heldStringS_l1 ret k a n) a v2 v3
def laws_heldStringS_t0 {A : Type} (ret : Int → Option A) (run1 : (List Str) → Int → Int → Option A) (a : (List Str)) (a_k : Int) : Option A :=
  run1 a a_k (0 : Int)
def laws_heldStringS_s {A : Type} (ret : Int → Option A) (k : Nat) (a : (List Str)) (a_k : Int) : Option A := laws_heldStringS_t0 ret (fun a_ v2_ v3_ => laws_heldStringS_l1 ret k a_ k v2_ v3_) a a_k
def laws_FnExactChopped_s {A : Type} (ret : Bool → Option A) (a0 : Str) (a1 : (List Int)) : Option A :=
  bif (decide ((a0.length : Int) > (1048576 : Int))) then (ret true) else (bif (decide ((a1.length : Int) > (1048576 : Int))) then (ret true) else (chk (laws_toIntS_pre a1) ((let y1 : (List Int) := laws_toIntS_f a1; chk (spec_Chopped_pre a0 y1) ((let y2 : (List Str) := spec_Chopped_f a0 y1; chk (laws_toIntS_pre a1) ((let y3 : (List Int) := laws_toIntS_f a1; chk (impl_Chopped_pre a0 y3) ((let y4 : (List Str) := impl_Chopped_f a0 y3; chk (laws_eqStringS_pre y4 y2) (bif (!(laws_eqStringS_f y4 y2)) then (ret false) else (chk (laws_toIntS_pre a1) ((let y5 : (List Int) := laws_toIntS_f a1; chk (laws_eqIntS_pre y3 y5) (bif (!(laws_eqIntS_f y3 y5)) then (ret false) else (chk (laws_markIntS_pre y3 (1 : Int)) ((let y6 : Int × (List Int) := laws_markIntS_f y3 (1 : Int); bif (decide (y6.1 < (0 : Int))) then (ret false) else (chk (laws_eqStringS_pre y4 y2) (bif (!(laws_eqStringS_f y4 y2)) then (ret false) else (chk (laws_markStringS_pre y4 (1 : Int)) ((let y7 : Int × (List Str) := laws_markStringS_f y4 (1 : Int); chk (laws_heldStringS_pre y7.2 (1 : Int)) (bif (decide ((laws_heldStringS_f y7.2 (1 : Int)) < (0 : Int))) then (ret false) else (bif ((laws_heldStringS_f y7.2 (1 : Int)) != y7.1) then (ret false) else (chk (laws_toIntS_pre a1) ((let y8 : (List Int) := laws_toIntS_f a1; chk (impl_Chopped_pre a0 y8) ((let y9 : (List Str) := impl_Chopped_f a0 y8; chk (laws_eqStringS_pre y9 y2) (bif (!(laws_eqStringS_f y9 y2)) then (ret false) else (chk (laws_heldStringS_pre y7.2 (1 : Int)) (bif (decide ((laws_heldStringS_f y7.2 (1 : Int)) < (0 : Int))) then (ret false) else (bif ((laws_heldStringS_f y7.2 (1 : Int)) != y7.1) then (ret false) else (ret true)))))))))))))))))))))))))))))))))))
theorem laws_toIntS_law {A : Type} (ret : _ → Option A) (x) (h : laws_toIntS_pre x = true) : laws_toIntS_s ret (laws_toIntS_k x) x = ret (laws_toIntS_f x) := by
  simp only [laws_toIntS_pre, decide_eq_true_eq] at h
  have hx := len_le_w x
  unfold laws_toIntS_s laws_toIntS_t0 laws_toIntS_f
  rw [chk_pos (mk_ok (by omega) (by omega)), Int.toNat_natCast]
  refine (map_loop0 (ret := ret) (L := laws_toIntS_l1 ret (laws_toIntS_k x) x) (a := x) (fun z => z) _ (fun n i ys hi hy => ?_) (fun n ys => ?_) (by unfold laws_toIntS_k; omega)).trans (congrArg ret (List.map_id' x))
  · show laws_toIntS_t1 _ _ _ _ _ = _
    unfold laws_toIntS_t1
    rw [bif_pos (by omega), chk_pos (inb_pos hi), getD_at hi]
    simp only [Int.toNat_natCast]
    rw [chk_pos (inb_pos (by omega)), w64_id (by omega) (by omega)]
    rfl
  · show laws_toIntS_t1 _ _ _ _ _ = _
    unfold laws_toIntS_t1
    rw [bif_neg (by omega)]
theorem spec_Brought_law {A : Type} (ret : Int → Option A) (n a b) : spec_Brought_s ret n a b = ret (spec_Brought_f n a b) := by
  unfold spec_Brought_s spec_Brought_f brought
  grind
theorem spec_Chopped_j8_is {A : Type} (ret : List Str → Option A) (b : Str) (i : Nat) (out : List Str) (rec1 : Str → Int → List Str → Option A) {n : Nat} (hn : n ≤ b.length) (hi : i ≤ 1048576) (ho : out.length ≤ 1048576) :
    spec_Chopped_j8 ret b i out rec1 (n : Int) = rec1 (b.drop n) ((i + 1 : Nat) : Int) (out ++ [b.take n]) := by
  unfold spec_Chopped_j8
  rw [chk_pos (by simp; omega), chk_pos (decide_eq_true (by simp [maxBytes]; omega)), chk_pos (by simp; omega), w64_id (by omega) (by omega)]
  simp
theorem spec_Chopped_go {A : Type} (ret : List Str → Option A) (k : Nat) (sizes : List Int) (hs : sizes.length ≤ 1099511627776) : ∀ (m : Nat) (b : Str) (out : List Str) (n : Nat), b.length ≤ m → m < n → out.length + b.length ≤ 1048576 →
    spec_Chopped_l1 ret k sizes n b (out.length : Int) out = ret (chop sizes m b out)
  | m, b, out, 0, _, h, _ => by omega
  | m, b, out, n + 1, hb, h, ho => by
    show spec_Chopped_t1 _ _ _ _ _ _ = _
    unfold spec_Chopped_t1
    by_cases h0 : b.length = 0
    · rw [bif_neg (by omega)]
      cases m with
      | zero => rfl
      | succ m => unfold chop; rw [if_pos h0]
    · match m, hb, h with
      | 0, hb, h => omega
      | m + 1, hb, h =>
        have h1 := chopN_le sizes b out.length
        have h2 := chopN_pos sizes b out.length (by omega)
        have ih : spec_Chopped_l1 ret k sizes n (b.drop (chopN sizes b out.length)) ((out.length + 1 : Nat) : Int) (out ++ [b.take (chopN sizes b out.length)]) = ret (chop sizes m (b.drop (chopN sizes b out.length)) (out ++ [b.take (chopN sizes b out.length)])) := by
          have := spec_Chopped_go ret k sizes hs m (b.drop (chopN sizes b out.length)) (out ++ [b.take (chopN sizes b out.length)]) n (by simp; omega) (by omega) (by simp; omega)
          simpa using this
        rw [bif_pos (by omega)]
        unfold chop
        rw [if_neg h0, ← ih]
        have h9 : ∀ y : Int, 0 ≤ y → spec_Chopped_j9 ret b out.length out (spec_Chopped_l1 ret k sizes n) y = spec_Chopped_j8 ret b out.length out (spec_Chopped_l1 ret k sizes n) ((min b.length y.toNat : Nat) : Int) := by
          intro y hy
          unfold spec_Chopped_j9
          by_cases hc : y > (b.length : Int)
          · rw [bif_pos hc]; congr 1; omega
          · rw [bif_neg hc]; congr 1; omega
        by_cases hz : 0 < sizes.length
        · rw [bif_pos (by omega)]
          unfold spec_Chopped_j7
          by_cases hj : out.length < 399
          · rw [bif_pos (by omega), chk_pos (by rw [bne_iff_ne]; omega)]
            rw [tmod_at, chk_pos (inb_pos (Nat.mod_lt _ hz)), Int.toNat_natCast]
            have hb1 := brought_in (n := sizes.getD (out.length % sizes.length) 0) (a := 1) (b := 1000) (by omega)
            have hc : chopN sizes b out.length = min b.length (brought (sizes.getD (out.length % sizes.length) 0) 1 1000).toNat := by unfold chopN; rw [if_pos ⟨hz, hj⟩]
            simp only [spec_Brought_f]
            rw [h9 _ (by omega), ← hc, spec_Chopped_j8_is ret b _ out _ h1 (by omega) (by omega)]
          · rw [bif_neg (by omega)]
            have hc : chopN sizes b out.length = b.length := by unfold chopN; rw [if_neg (by omega)]
            rw [h9 _ (by omega), Int.toNat_natCast, Nat.min_self, ← hc, spec_Chopped_j8_is ret b _ out _ h1 (by omega) (by omega)]
        · rw [bif_neg (by omega)]
          unfold spec_Chopped_j7
          have hc : chopN sizes b out.length = b.length := by unfold chopN; rw [if_neg (by omega)]
          rw [cond_false, h9 _ (by omega), Int.toNat_natCast, Nat.min_self, ← hc, spec_Chopped_j8_is ret b _ out _ h1 (by omega) (by omega)]
theorem spec_Chopped_law {A : Type} (ret : List Str → Option A) (b sizes) (h : spec_Chopped_pre b sizes = true) : spec_Chopped_s ret (spec_Chopped_k b sizes) b sizes = ret (spec_Chopped_f b sizes) := by
  simp only [spec_Chopped_pre, Bool.and_eq_true, decide_eq_true_eq] at h
  unfold spec_Chopped_s spec_Chopped_t0 spec_Chopped_f
  exact spec_Chopped_go ret _ sizes h.2 b.length b [] _ (Nat.le_refl _) (by unfold spec_Chopped_k; omega) (by simpa using h.1)
theorem impl_Brought_law {A : Type} (ret : Int → Option A) (n a b) : impl_Brought_s ret n a b = ret (impl_Brought_f n a b) := by
  unfold impl_Brought_s impl_Brought_f brought mxI mnI
  grind
theorem impl_Chopped_j6_is {A : Type} (ret : List Str → Option A) (b : Str) (out : List Str) (rec1 : Str → List Str → Option A) {n : Nat} (hn : n ≤ b.length) (ho : out.length ≤ 1048576) :
    impl_Chopped_j6 ret b out rec1 (n : Int) = rec1 (b.drop n) (out ++ [b.take n]) := by
  unfold impl_Chopped_j6
  rw [chk_pos (by simp; omega), chk_pos (decide_eq_true (by simp [maxBytes]; omega)), chk_pos (by simp; omega)]
  simp
theorem impl_Chopped_go {A : Type} (ret : List Str → Option A) (k : Nat) (sizes : List Int) (hs : sizes.length ≤ 1099511627776) : ∀ (m : Nat) (b : Str) (out : List Str) (n : Nat), b.length ≤ m → m < n → out.length + b.length ≤ 1048576 →
    impl_Chopped_l1 ret k sizes n b out = ret (chop sizes m b out)
  | m, b, out, 0, _, h, _ => by omega
  | m, b, out, n + 1, hb, h, ho => by
    show impl_Chopped_t1 _ _ _ _ _ = _
    unfold impl_Chopped_t1
    by_cases h0 : b.length = 0
    · have hb0 : b = [] := List.length_eq_zero_iff.1 h0
      rw [hb0]
      cases m with
      | zero => rfl
      | succ m => rfl
    · match m, hb, h with
      | 0, hb, h => omega
      | m + 1, hb, h =>
        have h1 := chopN_le sizes b out.length
        have h2 := chopN_pos sizes b out.length (by omega)
        have ih : impl_Chopped_l1 ret k sizes n (b.drop (chopN sizes b out.length)) (out ++ [b.take (chopN sizes b out.length)]) = ret (chop sizes m (b.drop (chopN sizes b out.length)) (out ++ [b.take (chopN sizes b out.length)])) :=
          impl_Chopped_go ret k sizes hs m (b.drop (chopN sizes b out.length)) (out ++ [b.take (chopN sizes b out.length)]) n (by simp; omega) (by omega) (by simp; omega)
        have hne : (!(b == ([] : Str))) = true := by
          have : b ≠ [] := fun e => h0 (by rw [e]; rfl)
          simpa using this
        rw [hne, cond_true]
        unfold chop
        rw [if_neg h0, ← ih]
        by_cases hz : 0 < sizes.length
        · rw [bif_pos (by omega)]
          unfold impl_Chopped_j5
          by_cases hj : out.length < 399
          · rw [bif_pos (by omega), chk_pos (by rw [bne_iff_ne]; omega)]
            rw [tmod_at, chk_pos (inb_pos (Nat.mod_lt _ hz)), Int.toNat_natCast]
            have hb1 := brought_in (n := sizes.getD (out.length % sizes.length) 0) (a := 1) (b := 1000) (by omega)
            have hc : chopN sizes b out.length = min b.length (brought (sizes.getD (out.length % sizes.length) 0) 1 1000).toNat := by unfold chopN; rw [if_pos ⟨hz, hj⟩]
            simp only [impl_Brought_f]
            have e : mnI (b.length : Int) (brought (sizes.getD (out.length % sizes.length) 0) 1 1000) = (chopN sizes b out.length : Int) := by
              rw [hc]; unfold mnI; split <;> omega
            rw [e, impl_Chopped_j6_is ret b out _ h1 (by omega)]
          · rw [bif_neg (by omega)]
            have hc : chopN sizes b out.length = b.length := by unfold chopN; rw [if_neg (by omega)]
            rw [← hc, impl_Chopped_j6_is ret b out _ h1 (by omega)]
        · rw [bif_neg (by omega)]
          unfold impl_Chopped_j5
          have hc : chopN sizes b out.length = b.length := by unfold chopN; rw [if_neg (by omega)]
          rw [cond_false, ← hc, impl_Chopped_j6_is ret b out _ h1 (by omega)]
theorem impl_Chopped_law {A : Type} (ret : List Str → Option A) (b sizes) (h : impl_Chopped_pre b sizes = true) : impl_Chopped_s ret (impl_Chopped_k b sizes) b sizes = ret (impl_Chopped_f b sizes) := by
  simp only [impl_Chopped_pre, Bool.and_eq_true, decide_eq_true_eq] at h
  unfold impl_Chopped_s impl_Chopped_t0 impl_Chopped_f
  exact impl_Chopped_go ret _ sizes h.2 b.length b [] _ (Nat.le_refl _) (by unfold impl_Chopped_k; omega) (by simpa using h.1)
theorem laws_eqStringS_law {A : Type} (ret : Bool → Option A) (x y) (h : laws_eqStringS_pre x y = true) : laws_eqStringS_s ret (laws_eqStringS_k x y) x y = ret (laws_eqStringS_f x y) := by
  simp only [laws_eqStringS_pre, decide_eq_true_eq] at h
  have hx := len_le_w x
  unfold laws_eqStringS_s laws_eqStringS_t0 laws_eqStringS_f
  by_cases hl : x.length = y.length
  · rw [show ((x.length : Int) != (y.length : Int)) = false by simp [hl], cond_false]
    refine eq_loop0 (L := laws_eqStringS_l1 ret (laws_eqStringS_k x y) x y) hl (fun n i hi => ?_) (fun n => ?_) (by unfold laws_eqStringS_k; omega)
    · have hy : i < y.length := by omega
      show laws_eqStringS_t1 _ _ _ _ _ = _
      unfold laws_eqStringS_t1
      rw [bif_pos (by omega), chk_pos (inb_pos hi), chk_pos (inb_pos hy), getD_at hi, getD_at hy]
      rw [w64_id (by omega) (by omega)]
      grind
    · show laws_eqStringS_t1 _ _ _ _ _ = _
      unfold laws_eqStringS_t1
      rw [bif_neg (by omega)]
  · rw [show ((x.length : Int) != (y.length : Int)) = true by simp; omega, cond_true]
    congr 1
    simp only [Bool.false_eq, decide_eq_false_iff_not]
    exact fun e => hl (by rw [e])
theorem laws_eqIntS_law {A : Type} (ret : Bool → Option A) (x y) (h : laws_eqIntS_pre x y = true) : laws_eqIntS_s ret (laws_eqIntS_k x y) x y = ret (laws_eqIntS_f x y) := by
  simp only [laws_eqIntS_pre, decide_eq_true_eq] at h
  have hx := len_le_w x
  unfold laws_eqIntS_s laws_eqIntS_t0 laws_eqIntS_f
  by_cases hl : x.length = y.length
  · rw [show ((x.length : Int) != (y.length : Int)) = false by simp [hl], cond_false]
    refine eq_loop0 (L := laws_eqIntS_l1 ret (laws_eqIntS_k x y) x y) hl (fun n i hi => ?_) (fun n => ?_) (by unfold laws_eqIntS_k; omega)
    · have hy : i < y.length := by omega
      show laws_eqIntS_t1 _ _ _ _ _ = _
      unfold laws_eqIntS_t1
      rw [bif_pos (by omega), chk_pos (inb_pos hi), chk_pos (inb_pos hy), getD_at hi, getD_at hy]
      rw [w64_id (by omega) (by omega)]
      grind
    · show laws_eqIntS_t1 _ _ _ _ _ = _
      unfold laws_eqIntS_t1
      rw [bif_neg (by omega)]
  · rw [show ((x.length : Int) != (y.length : Int)) = true by simp; omega, cond_true]
    congr 1
    simp only [Bool.false_eq, decide_eq_false_iff_not]
    exact fun e => hl (by rw [e])
theorem laws_markIntS_law {A : Type} (ret : Int × List Int → Option A) (a k) (h : laws_markIntS_pre a k = true) : laws_markIntS_s ret (laws_markIntS_k a k) a k = ret (laws_markIntS_f a k) := by
  simp only [laws_markIntS_pre, Bool.and_eq_true, decide_eq_true_eq] at h
  unfold laws_markIntS_s laws_markIntS_t0 laws_markIntS_f
  refine mark_loop0 (c := 1) (by omega) (fun x k => ⟨by omega, by omega⟩) (fun n i k ys hi hy hk => ?_) (fun n k ys => ?_) (by unfold laws_markIntS_k; omega) (by omega) h.1.1 (by omega)
  · rw [kR_iff] at hk
    show laws_markIntS_t1 _ _ _ _ _ = _
    unfold laws_markIntS_t1
    rw [bif_pos (by omega), chk_pos (inb_pos hi), w64_id (by omega) (by omega), w64_id (by omega) (by omega), Int.toNat_natCast]
    rfl
  · show laws_markIntS_t1 _ _ _ _ _ = _
    unfold laws_markIntS_t1
    rw [bif_neg (by omega)]
theorem laws_markText_go {A : Type} (ret : Str → Option A) (k : Nat) : ∀ (m : Nat) (v : Int) (acc : Str) (n : Nat), v < 10 ^ m → v < 9223372036854775808 → m < n → acc.length + m ≤ 1000 → laws_markText_l1 ret k n v acc = ret ([109] ++ mDig m v acc)
  | m, v, acc, 0, _, _, h, _ => by omega
  | 0, v, acc, n + 1, hv, _, h, ha => by
    show laws_markText_t1 _ _ _ _ = _
    unfold laws_markText_t1
    rw [bif_neg (by simp at hv; omega), chk_pos (decide_eq_true (by simp; omega))]
    rfl
  | m + 1, v, acc, n + 1, hv, hv2, h, ha => by
    show laws_markText_t1 _ _ _ _ = _
    unfold laws_markText_t1 mDig
    by_cases h0 : v > 0
    · have e1 : v.tdiv 10 = v / 10 := Int.tdiv_eq_ediv_of_nonneg (by omega)
      have hlt : v / 10 < 10 ^ m := by
        have : (10 : Int) ^ (m + 1) = 10 ^ m * 10 := Int.pow_succ ..
        omega
      rw [bif_pos h0, if_pos h0, chk_pos (decide_eq_true (by rw [toStr_one]; omega))]
      rw [e1, w64_id (n := v / 10) (by omega) (by omega)]
      exact laws_markText_go ret k m _ _ n hlt (by omega) (by omega) (by rw [List.length_append, toStr_one]; omega)
    · rw [bif_neg h0, if_neg h0, chk_pos (decide_eq_true (by simp; omega))]
theorem laws_markText_law {A : Type} (ret : Str → Option A) (k) (h : laws_markText_pre k = true) : laws_markText_s ret (laws_markText_k k) k = ret (laws_markText_f k) := by
  simp only [laws_markText_pre, decide_eq_true_eq] at h
  unfold laws_markText_s laws_markText_t0 laws_markText_f
  by_cases h0 : k ≤ 0
  · rw [bif_pos h0, if_pos h0]
  · rw [bif_neg h0, if_neg h0]
    exact laws_markText_go ret _ 19 k [] _ (by omega) (by omega) (by unfold laws_markText_k; omega) (by simp)
theorem laws_markStringS_law {A : Type} (ret : Int × List Str → Option A) (a k) (h : laws_markStringS_pre a k = true) : laws_markStringS_s ret (laws_markStringS_k a k) a k = ret (laws_markStringS_f a k) := by
  simp only [laws_markStringS_pre, Bool.and_eq_true, decide_eq_true_eq] at h
  unfold laws_markStringS_s laws_markStringS_t0 laws_markStringS_f
  refine mark_loop0 (c := 1) (by omega) (fun x k => ⟨by omega, by omega⟩) (fun n i k ys hi hy hk => ?_) (fun n k ys => ?_) (by unfold laws_markStringS_k; omega) (by omega) h.1.1 (by omega)
  · rw [kR_iff] at hk
    show laws_markStringS_t1 _ _ _ _ _ = _
    unfold laws_markStringS_t1
    rw [bif_pos (by omega), chk_pos (by unfold laws_markText_pre; exact decide_eq_true hk.2)]
    simp only
    rw [chk_pos (inb_pos hi), w64_id (by omega) (by omega), w64_id (by omega) (by omega), Int.toNat_natCast]
    rfl
  · show laws_markStringS_t1 _ _ _ _ _ = _
    unfold laws_markStringS_t1
    rw [bif_neg (by omega)]
theorem laws_heldStringS_law {A : Type} (ret : Int → Option A) (a k) (h : laws_heldStringS_pre a k = true) : laws_heldStringS_s ret (laws_heldStringS_k a k) a k = ret (laws_heldStringS_f a k) := by
  simp only [laws_heldStringS_pre, Bool.and_eq_true, decide_eq_true_eq] at h
  unfold laws_heldStringS_s laws_heldStringS_t0 laws_heldStringS_f
  refine held_loop0 (L := laws_heldStringS_l1 ret (laws_heldStringS_k a k) a) (c := 1) (by omega) (fun x k k' hk => by unfold heldStr at hk; split at hk <;> cases hk; omega) (fun n i k hi hk => ?_) (fun n k => ?_) (by unfold laws_heldStringS_k; omega) h.1.1 (by omega)
  · rw [kR_iff] at hk
    show laws_heldStringS_t1 _ _ _ _ _ = _
    unfold laws_heldStringS_t1 heldStr
    rw [bif_pos (by omega), chk_pos (inb_pos hi), chk_pos (by unfold laws_markText_pre; exact decide_eq_true hk.2), getD_at hi]
    simp only
    rw [w64_id (by omega) (by omega), w64_id (by omega) (by omega)]
    grind
  · show laws_heldStringS_t1 _ _ _ _ _ = _
    unfold laws_heldStringS_t1
    rw [bif_neg (by omega)]
theorem laws_FnExactChopped_law {A : Type} (ret : Bool → Option A) (a b) (h : laws_FnExactChopped_pre a b = true) : laws_FnExactChopped_s ret a b = ret (laws_FnExactChopped_f a b) := by
  unfold laws_FnExactChopped_s laws_FnExactChopped_f
  by_cases ha : (a.length : Int) > 1048576
  · rw [bif_pos ha]
  by_cases hb : (b.length : Int) > 1048576
  · rw [bif_neg ha, bif_pos hb]
  rw [bif_neg ha, bif_neg hb]
  have hw := chop_w b a.length a []
  rw [show w ([] : List Str) = 0 from rfl] at hw
  have hl := len_le_w (chop b a.length a [])
  have p1 : laws_toIntS_pre b = true := by unfold laws_toIntS_pre; rw [w_ints]; exact decide_eq_true (by omega)
  have p2 : spec_Chopped_pre a b = true := by simp only [spec_Chopped_pre, Bool.and_eq_true, decide_eq_true_eq]; omega
  have p3 : impl_Chopped_pre a b = true := by simp only [impl_Chopped_pre, Bool.and_eq_true, decide_eq_true_eq]; omega
  have p4 : laws_eqStringS_pre (chop b a.length a []) (chop b a.length a []) = true := by unfold laws_eqStringS_pre; exact decide_eq_true (by omega)
  have p5 : laws_eqIntS_pre b b = true := by unfold laws_eqIntS_pre; rw [w_ints]; exact decide_eq_true (by omega)
  have p6 : laws_markIntS_pre b 1 = true := by simp only [laws_markIntS_pre, Bool.and_eq_true, decide_eq_true_eq]; omega
  have p7 : laws_markStringS_pre (chop b a.length a []) 1 = true := by simp only [laws_markStringS_pre, Bool.and_eq_true, decide_eq_true_eq]; omega
  have p8 : laws_heldStringS_pre (laws_markStringS_f (chop b a.length a []) 1).2 1 = true := by
    simp only [laws_heldStringS_pre, Bool.and_eq_true, decide_eq_true_eq, laws_markStringS_f, markL_len]; omega
  have q1 := (markL_le (f := fun (_ : Int) k => (k + 1, k)) (c := 1) (by omega) (fun x k => ⟨by omega, by omega⟩) b 1).1
  have q2 := (markL_le (f := fun (_ : Str) k => (k + 1, laws_markText_f k)) (c := 1) (by omega) (fun x k => ⟨by omega, by omega⟩) (chop b a.length a []) 1).1
  have q3 : laws_heldStringS_f (laws_markStringS_f (chop b a.length a []) 1).2 1 = (laws_markStringS_f (chop b a.length a []) 1).1 :=
    held_mark (fun x k => by simp [heldStr]) _ _
  simp only [laws_toIntS_f, spec_Chopped_f, impl_Chopped_f, laws_eqStringS_f, laws_eqIntS_f, p1, p2, p3, p4, p5, p6, p7, p8, q3, chk_tt, decide_true, Bool.not_true, cond_false]
  have n1 : ¬ (laws_markIntS_f b 1).1 < 0 := by unfold laws_markIntS_f; omega
  have n2 : ¬ (laws_markStringS_f (chop b a.length a []) 1).1 < 0 := by unfold laws_markStringS_f; omega
  simp only [n1, n2, decide_false, cond_false, bne_self_eq_false]

end Go.Vp
