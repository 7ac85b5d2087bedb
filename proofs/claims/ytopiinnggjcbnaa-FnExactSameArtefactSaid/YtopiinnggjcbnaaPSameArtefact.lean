/- FnExactSameArtefact, the plain functions: what the Go functions that the law reaches compute, and that it is what is told here. By program and by hand. -/
import Derived.Test.YtopiinnggjcbnaaVP
set_option linter.unusedVariables false
namespace Go.Vp
open Go Go.Vi Wt
def laws_toIntS_f (x : (List Int)) : (List Int) := x
def laws_toIntS_pre (x : (List Int)) : Bool := decide (w x ≤ 1048576)
def laws_toIntS_k (x : (List Int)) : Nat := x.length + 1
def laws_eqStringS_f (x y : (List Str)) : Bool := decide (x = y)
def laws_eqStringS_pre (x y : (List Str)) : Bool := decide (w x ≤ 4611686018427387904)
def laws_eqStringS_k (x y : (List Str)) : Nat := x.length + 1
def laws_eqIntS_f (x y : (List Int)) : Bool := decide (x = y)
def laws_eqIntS_pre (x y : (List Int)) : Bool := decide (w x ≤ 4611686018427387904)
def laws_eqIntS_k (x y : (List Int)) : Nat := x.length + 1
def laws_szStringS_f (x : (List Str)) (left : Int) : Int := szF x left
def laws_szStringS_pre (x : (List Str)) (left : Int) : Bool := fit (.sl .str) x && szR left
def laws_szStringS_k (x : (List Str)) (left : Int) : Nat := x.length + 1
def laws_toStringS_f (x : (List Str)) : (List Str) := x
def laws_toStringS_pre (x : (List Str)) : Bool := decide (w x ≤ 1048576)
def laws_toStringS_k (x : (List Str)) : Nat := x.length + 1
def laws_szPoint_f (x : TPoint) (left : Int) : Int := szF x left
def laws_szPoint_pre (x : TPoint) (left : Int) : Bool := fit (.pair .bool (.pair .str (.pair .str .unit))) x && szR left
def laws_szPair_f (x : TPair) (left : Int) : Int := szF x left
def laws_szPair_pre (x : TPair) (left : Int) : Bool := fit (.pair .str (.pair .str .unit)) x && szR left
def laws_szPairPoint_f (x : TPairPoint) (left : Int) : Int := szF x left
def laws_szPairPoint_pre (x : TPairPoint) (left : Int) : Bool := fit (.pair .bool (.pair (.pair .str (.pair .str .unit)) (.pair (.pair .str (.pair .str .unit)) .unit))) x && szR left
def laws_szIntS_f (x : (List Int)) (left : Int) : Int := szF x left
def laws_szIntS_pre (x : (List Int)) (left : Int) : Bool := fit (.sl (.int .i64)) x && szR left
def laws_szIntS_k (x : (List Int)) (left : Int) : Nat := x.length + 1
def laws_szTerm_f (x : TTerm) (left : Int) : Int := szF x left
def laws_szTerm_pre (x : TTerm) (left : Int) : Bool := fit (.pair (.int .i64) (.pair .str .unit)) x && szR left
def laws_szTermS_f (x : (List TTerm)) (left : Int) : Int := szF x left
def laws_szTermS_pre (x : (List TTerm)) (left : Int) : Bool := fit (.sl (.pair (.int .i64) (.pair .str .unit))) x && szR left
def laws_szTermS_k (x : (List TTerm)) (left : Int) : Nat := x.length + 1
def laws_szRow_f (x : TRow) (left : Int) : Int := szF x left
def laws_szRow_pre (x : TRow) (left : Int) : Bool := fit (.pair (.sl (.pair (.int .i64) (.pair .str .unit))) (.pair (.sl (.pair (.int .i64) (.pair .str .unit))) (.pair (.sl (.pair (.int .i64) (.pair .str .unit))) .unit))) x && szR left
def laws_szRowS_f (x : (List TRow)) (left : Int) : Int := szF x left
def laws_szRowS_pre (x : (List TRow)) (left : Int) : Bool := fit (.sl (.pair (.sl (.pair (.int .i64) (.pair .str .unit))) (.pair (.sl (.pair (.int .i64) (.pair .str .unit))) (.pair (.sl (.pair (.int .i64) (.pair .str .unit))) .unit)))) x && szR left
def laws_szRowS_k (x : (List TRow)) (left : Int) : Nat := x.length + 1
def laws_szSystem_f (x : TSystem) (left : Int) : Int := szF x left
def laws_szSystem_pre (x : TSystem) (left : Int) : Bool := fit (.pair (.int .i64) (.pair (.int .i64) (.pair (.int .i64) (.pair (.int .i64) (.pair (.int .i64) (.pair (.sl (.int .i64)) (.pair (.sl (.pair (.sl (.pair (.int .i64) (.pair .str .unit))) (.pair (.sl (.pair (.int .i64) (.pair .str .unit))) (.pair (.sl (.pair (.int .i64) (.pair .str .unit))) .unit)))) .unit))))))) x && szR left
def laws_szWitness_f (x : TWitness) (left : Int) : Int := szF x left
def laws_szWitness_pre (x : TWitness) (left : Int) : Bool := fit (.pair (.int .i64) (.pair (.sl .str) .unit)) x && szR left
def laws_szPointS_f (x : (List TPoint)) (left : Int) : Int := szF x left
def laws_szPointS_pre (x : (List TPoint)) (left : Int) : Bool := fit (.sl (.pair .bool (.pair .str (.pair .str .unit)))) x && szR left
def laws_szPointS_k (x : (List TPoint)) (left : Int) : Nat := x.length + 1
def laws_szKey_f (x : TKey) (left : Int) : Int := szF x left
def laws_szKey_pre (x : TKey) (left : Int) : Bool := fit (.pair (.int .i64) (.pair (.pair .bool (.pair .str (.pair .str .unit))) (.pair (.pair .bool (.pair (.pair .str (.pair .str .unit)) (.pair (.pair .str (.pair .str .unit)) .unit))) (.pair (.pair .bool (.pair (.pair .str (.pair .str .unit)) (.pair (.pair .str (.pair .str .unit)) .unit))) (.pair (.pair .bool (.pair (.pair .str (.pair .str .unit)) (.pair (.pair .str (.pair .str .unit)) .unit))) (.pair (.sl (.pair .bool (.pair .str (.pair .str .unit)))) .unit)))))) x && szR left
def laws_szProof_f (x : TProof) (left : Int) : Int := szF x left
def laws_szProof_pre (x : TProof) (left : Int) : Bool := fit (.pair (.int .i64) (.pair (.pair .bool (.pair .str (.pair .str .unit))) (.pair (.pair .bool (.pair (.pair .str (.pair .str .unit)) (.pair (.pair .str (.pair .str .unit)) .unit))) (.pair (.pair .bool (.pair .str (.pair .str .unit))) .unit)))) x && szR left
def laws_szArtefact_f (x : TArtefact) (left : Int) : Int := szF x left
def laws_szArtefact_pre (x : TArtefact) (left : Int) : Bool := fit (.pair (.int .i64) (.pair (.int .i64) (.pair (.pair .bool (.pair .str (.pair .str .unit))) (.pair (.pair .bool (.pair (.pair .str (.pair .str .unit)) (.pair (.pair .str (.pair .str .unit)) .unit))) (.pair (.pair (.int .i64) (.pair (.int .i64) (.pair (.int .i64) (.pair (.int .i64) (.pair (.int .i64) (.pair (.sl (.int .i64)) (.pair (.sl (.pair (.sl (.pair (.int .i64) (.pair .str .unit))) (.pair (.sl (.pair (.int .i64) (.pair .str .unit))) (.pair (.sl (.pair (.int .i64) (.pair .str .unit))) .unit)))) .unit))))))) (.pair (.pair (.int .i64) (.pair (.sl .str) .unit)) (.pair (.pair (.int .i64) (.pair (.pair .bool (.pair .str (.pair .str .unit))) (.pair (.pair .bool (.pair (.pair .str (.pair .str .unit)) (.pair (.pair .str (.pair .str .unit)) .unit))) (.pair (.pair .bool (.pair (.pair .str (.pair .str .unit)) (.pair (.pair .str (.pair .str .unit)) .unit))) (.pair (.pair .bool (.pair (.pair .str (.pair .str .unit)) (.pair (.pair .str (.pair .str .unit)) .unit))) (.pair (.sl (.pair .bool (.pair .str (.pair .str .unit)))) .unit)))))) (.pair (.pair (.int .i64) (.pair (.pair .bool (.pair .str (.pair .str .unit))) (.pair (.pair .bool (.pair (.pair .str (.pair .str .unit)) (.pair (.pair .str (.pair .str .unit)) .unit))) (.pair (.pair .bool (.pair .str (.pair .str .unit))) .unit)))) .unit)))))))) x && szR left
def laws_toPoint_f (x : TPoint) : TPoint := x
def laws_toPair_f (x : TPair) : TPair := x
def laws_toPairPoint_f (x : TPairPoint) : TPairPoint := x
def laws_toTerm_f (x : TTerm) : TTerm := x
def laws_toTermS_f (x : (List TTerm)) : (List TTerm) := x
def laws_toTermS_pre (x : (List TTerm)) : Bool := decide (w x ≤ 1048576)
def laws_toTermS_k (x : (List TTerm)) : Nat := x.length + 1
def laws_toRow_f (x : TRow) : TRow := x
def laws_toRow_pre (x : TRow) : Bool := decide (w x ≤ 1048576)
def laws_toRowS_f (x : (List TRow)) : (List TRow) := x
def laws_toRowS_pre (x : (List TRow)) : Bool := decide (w x ≤ 1048576)
def laws_toRowS_k (x : (List TRow)) : Nat := x.length + 1
def laws_toSystem_f (x : TSystem) : TSystem := x
def laws_toSystem_pre (x : TSystem) : Bool := decide (w x ≤ 1048576)
def laws_toWitness_f (x : TWitness) : TWitness := x
def laws_toWitness_pre (x : TWitness) : Bool := decide (w x ≤ 1048576)
def laws_toPointS_f (x : (List TPoint)) : (List TPoint) := x
def laws_toPointS_pre (x : (List TPoint)) : Bool := decide (w x ≤ 1048576)
def laws_toPointS_k (x : (List TPoint)) : Nat := x.length + 1
def laws_toKey_f (x : TKey) : TKey := x
def laws_toKey_pre (x : TKey) : Bool := decide (w x ≤ 1048576)
def laws_toProof_f (x : TProof) : TProof := x
def laws_toArtefact_f (x : TArtefact) : TArtefact := x
def laws_toArtefact_pre (x : TArtefact) : Bool := decide (w x ≤ 1048576)
def laws_eqPoint_f (x y : TPoint) : Bool := decide (x = y)
def laws_eqPair_f (x y : TPair) : Bool := decide (x = y)
def laws_eqPairPoint_f (x y : TPairPoint) : Bool := decide (x = y)
def laws_eqTerm_f (x y : TTerm) : Bool := decide (x = y)
def laws_eqTermS_f (x y : (List TTerm)) : Bool := decide (x = y)
def laws_eqTermS_pre (x y : (List TTerm)) : Bool := decide (w x ≤ 4611686018427387904)
def laws_eqTermS_k (x y : (List TTerm)) : Nat := x.length + 1
def laws_eqRow_f (x y : TRow) : Bool := decide (x = y)
def laws_eqRow_pre (x y : TRow) : Bool := decide (w x ≤ 4611686018427387904)
def laws_eqRowS_f (x y : (List TRow)) : Bool := decide (x = y)
def laws_eqRowS_pre (x y : (List TRow)) : Bool := decide (w x ≤ 4611686018427387904)
def laws_eqRowS_k (x y : (List TRow)) : Nat := x.length + 1
def laws_eqSystem_f (x y : TSystem) : Bool := decide (x = y)
def laws_eqSystem_pre (x y : TSystem) : Bool := decide (w x ≤ 4611686018427387904)
def laws_eqWitness_f (x y : TWitness) : Bool := decide (x = y)
def laws_eqWitness_pre (x y : TWitness) : Bool := decide (w x ≤ 4611686018427387904)
def laws_eqPointS_f (x y : (List TPoint)) : Bool := decide (x = y)
def laws_eqPointS_pre (x y : (List TPoint)) : Bool := decide (w x ≤ 4611686018427387904)
def laws_eqPointS_k (x y : (List TPoint)) : Nat := x.length + 1
def laws_eqKey_f (x y : TKey) : Bool := decide (x = y)
def laws_eqKey_pre (x y : TKey) : Bool := decide (w x ≤ 4611686018427387904)
def laws_eqProof_f (x y : TProof) : Bool := decide (x = y)
def laws_eqArtefact_f (x y : TArtefact) : Bool := decide (x = y)
def laws_eqArtefact_pre (x y : TArtefact) : Bool := decide (w x ≤ 4611686018427387904)
def spec_SameCombo_f (x y : (List TTerm)) : Bool := decide (x = y)
def spec_SameCombo_pre (x y : (List TTerm)) : Bool := decide (w x ≤ 4611686018427387904)
def spec_SameCombo_k (x _ : (List TTerm)) : Nat := w x + 1
def spec_SameSystem_f (x y : TSystem) : Bool := decide (x = y)
def spec_SameSystem_pre (x y : TSystem) : Bool := decide (w x ≤ 4611686018427387904)
def spec_SameSystem_k (x _ : TSystem) : Nat := w x + 1
def spec_SameWitness_f (x y : TWitness) : Bool := decide (x = y)
def spec_SameWitness_pre (x y : TWitness) : Bool := decide (w x ≤ 4611686018427387904)
def spec_SameWitness_k (x _ : TWitness) : Nat := w x + 1
def spec_SameKey_f (x y : TKey) : Bool := decide (x = y)
def spec_SameKey_pre (x y : TKey) : Bool := decide (w x ≤ 4611686018427387904)
def spec_SameKey_k (x _ : TKey) : Nat := w x + 1
def spec_SameArtefact_f (x y : TArtefact) : Bool := decide (x = y)
def spec_SameArtefact_pre (x y : TArtefact) : Bool := decide (w x ≤ 4611686018427387904)
def spec_SameArtefact_k (x _ : TArtefact) : Nat := w x + 1
def Equal_Ints_f (x y : (List Int)) : Bool := decide (x = y)
def Equal_Ints_pre (x y : (List Int)) : Bool := decide (w x ≤ 4611686018427387904)
def Equal_Ints_k (x _ : (List Int)) : Nat := w x + 1
def impl_Row_combos_f (r : TRow) : List (List TTerm) := [r.1, r.2.1, r.2.2.1]
def Equal_Terms_f (x y : (List TTerm)) : Bool := decide (x = y)
def Equal_Terms_pre (x y : (List TTerm)) : Bool := decide (w x ≤ 9000000000000000000)
def Equal_Terms_k (x _ : (List TTerm)) : Nat := w x + 1
def impl_SameCombo_f (x y : (List TTerm)) : Bool := decide (x = y)
def impl_SameCombo_pre (x y : (List TTerm)) : Bool := decide (w x ≤ 9000000000000000000)
def impl_SameCombo_k (x _ : (List TTerm)) : Nat := w x + 1
def EqualFunc_Terms_f (x y : (List (List TTerm))) : Bool := decide (x = y)
def EqualFunc_Terms_pre (x y : (List (List TTerm))) : Bool := decide (w x ≤ 8000000000000000000)
def EqualFunc_Terms_k (x _ : (List (List TTerm))) : Nat := w x + 1
def impl_SameSystem_1_f (x y : TRow) : Bool := decide (x = y)
def impl_SameSystem_1_pre (x y : TRow) : Bool := decide (w x ≤ 7000000000000000000)
def impl_SameSystem_1_k (x _ : TRow) : Nat := w x + 1
def EqualFunc_Rows_f (x y : (List TRow)) : Bool := decide (x = y)
def EqualFunc_Rows_pre (x y : (List TRow)) : Bool := decide (w x ≤ 6000000000000000000)
def EqualFunc_Rows_k (x _ : (List TRow)) : Nat := w x + 1
def impl_SameSystem_f (x y : TSystem) : Bool := decide (x = y)
def impl_SameSystem_pre (x y : TSystem) : Bool := decide (w x ≤ 4611686018427387904)
def impl_SameSystem_k (x _ : TSystem) : Nat := w x + 1
def Equal_Strs_f (x y : (List Str)) : Bool := decide (x = y)
def Equal_Strs_pre (x y : (List Str)) : Bool := decide (w x ≤ 4611686018427387904)
def Equal_Strs_k (x _ : (List Str)) : Nat := w x + 1
def impl_SameWitness_f (x y : TWitness) : Bool := decide (x = y)
def impl_SameWitness_pre (x y : TWitness) : Bool := decide (w x ≤ 4611686018427387904)
def impl_SameWitness_k (x _ : TWitness) : Nat := w x + 1
def Equal_Points_f (x y : (List TPoint)) : Bool := decide (x = y)
def Equal_Points_pre (x y : (List TPoint)) : Bool := decide (w x ≤ 4611686018427387904)
def Equal_Points_k (x _ : (List TPoint)) : Nat := w x + 1
def impl_SameKey_f (x y : TKey) : Bool := decide (x = y)
def impl_SameKey_pre (x y : TKey) : Bool := decide (w x ≤ 4611686018427387904)
def impl_SameKey_k (x _ : TKey) : Nat := w x + 1
def impl_SameArtefact_f (x y : TArtefact) : Bool := decide (x = y)
def impl_SameArtefact_pre (x y : TArtefact) : Bool := decide (w x ≤ 4611686018427387904)
def impl_SameArtefact_k (x _ : TArtefact) : Nat := w x + 1
def laws_FnExactSameArtefact_f (_ _ : TArtefact) : Bool := true
def laws_FnExactSameArtefact_pre (a b : TArtefact) : Bool := fit (.pair (.int .i64) (.pair (.int .i64) (.pair tPoint (.pair tPairPoint (.pair tSystem (.pair tWitness (.pair tKey (.pair tProof .unit)))))))) a && fit (.pair (.int .i64) (.pair (.int .i64) (.pair tPoint (.pair tPairPoint (.pair tSystem (.pair tWitness (.pair tKey (.pair tProof .unit)))))))) b
def laws_toIntS_t1 {A : Type} (ret : (List Int) → Option A) (rec1 : Int → (List Int) → Option A) (a : (List Int)) (v1 : Int) (v2 : (List Int)) : Option A :=
  bif (decide (v1 < (a.length : Int))) then (chk (decide (0 ≤ v1) && decide (v1 < (a.length : Int))) (chk (decide (0 ≤ v1) && decide (v1 < (v2.length : Int))) (rec1 (IntKind.wrap .i64 (v1 + (1 : Int))) (v2.set v1.toNat (a.getD v1.toNat (0 : Int)))))) else (ret v2)
def laws_toIntS_l1 {A : Type} (ret : (List Int) → Option A) (k : Nat) (a : (List Int)) : Nat → Int → (List Int) → Option A
  | 0 => fun _ _ => none
  | n + 1 => fun v1 v2 => laws_toIntS_t1 ret (laws_toIntS_l1 ret k a n) a v1 v2
def laws_toIntS_t0 {A : Type} (ret : (List Int) → Option A) (run1 : (List Int) → Int → (List Int) → Option A) (a : (List Int)) : Option A :=
  chk (decide (0 ≤ (a.length : Int)) && decide ((a.length : Int) ≤ (a.length : Int)) && decide ((a.length : Int) * 8 ≤ maxBytes)) (run1 a (0 : Int) (List.replicate (a.length : Int).toNat (0 : Int)))
def laws_toIntS_s {A : Type} (ret : (List Int) → Option A) (k : Nat) (a : (List Int)) : Option A := laws_toIntS_t0 ret (fun a_ v1_ v2_ => laws_toIntS_l1 ret k a_ k v1_ v2_) a
def laws_eqStringS_t1 {A : Type} (ret : Bool → Option A) (rec1 : Int → Option A) (a : (List Str)) (b : (List Str)) (v1 : Int) : Option A :=
  bif (decide (v1 < (a.length : Int))) then (chk (decide (0 ≤ v1) && decide (v1 < (a.length : Int))) (chk (decide (0 ≤ v1) && decide (v1 < (b.length : Int))) (bif (!((a.getD v1.toNat ([] : Str)) == (b.getD v1.toNat ([] : Str)))) then (ret false) else (rec1 (IntKind.wrap .i64 (v1 + (1 : Int))))))) else (ret true)
def laws_eqStringS_l1 {A : Type} (ret : Bool → Option A) (k : Nat) (a : (List Str)) (b : (List Str)) : Nat → Int → Option A
  | 0 => fun _ => none
  | n + 1 => fun v1 => laws_eqStringS_t1 ret (laws_eqStringS_l1 ret k a b n) a b v1
def laws_eqStringS_t0 {A : Type} (ret : Bool → Option A) (run1 : (List Str) → (List Str) → Int → Option A) (a : (List Str)) (b : (List Str)) : Option A :=
  bif ((a.length : Int) != (b.length : Int)) then (ret false) else (run1 a b (0 : Int))
def laws_eqStringS_s {A : Type} (ret : Bool → Option A) (k : Nat) (a : (List Str)) (b : (List Str)) : Option A := laws_eqStringS_t0 ret (fun a_ b_ v1_ => laws_eqStringS_l1 ret k a_ b_ k v1_) a b
def laws_eqIntS_t1 {A : Type} (ret : Bool → Option A) (rec1 : Int → Option A) (a : (List Int)) (b : (List Int)) (v1 : Int) : Option A :=
  bif (decide (v1 < (a.length : Int))) then (chk (decide (0 ≤ v1) && decide (v1 < (a.length : Int))) (chk (decide (0 ≤ v1) && decide (v1 < (b.length : Int))) (bif ((a.getD v1.toNat (0 : Int)) != (b.getD v1.toNat (0 : Int))) then (ret false) else (rec1 (IntKind.wrap .i64 (v1 + (1 : Int))))))) else (ret true)
def laws_eqIntS_l1 {A : Type} (ret : Bool → Option A) (k : Nat) (a : (List Int)) (b : (List Int)) : Nat → Int → Option A
  | 0 => fun _ => none
  | n + 1 => fun v1 => laws_eqIntS_t1 ret (laws_eqIntS_l1 ret k a b n) a b v1
def laws_eqIntS_t0 {A : Type} (ret : Bool → Option A) (run1 : (List Int) → (List Int) → Int → Option A) (a : (List Int)) (b : (List Int)) : Option A :=
  bif ((a.length : Int) != (b.length : Int)) then (ret false) else (run1 a b (0 : Int))
def laws_eqIntS_s {A : Type} (ret : Bool → Option A) (k : Nat) (a : (List Int)) (b : (List Int)) : Option A := laws_eqIntS_t0 ret (fun a_ b_ v1_ => laws_eqIntS_l1 ret k a_ b_ k v1_) a b
def laws_szStringS_t1 {A : Type} (ret : Int → Option A) (rec1 : Int → Int → Option A) (a : (List Str)) (v1 : Int) (v2 : Int) : Option A :=
  bif (decide (v2 < (a.length : Int))) then (chk (decide (0 ≤ v2) && decide (v2 < (a.length : Int))) (bif (decide ((IntKind.wrap .i64 (v1 - ((a.getD v2.toNat ([] : Str)).length : Int))) < (0 : Int))) then (ret (-1 : Int)) else (rec1 (IntKind.wrap .i64 (v1 - ((a.getD v2.toNat ([] : Str)).length : Int))) (IntKind.wrap .i64 (v2 + (1 : Int)))))) else (ret v1)
def laws_szStringS_l1 {A : Type} (ret : Int → Option A) (k : Nat) (a : (List Str)) : Nat → Int → Int → Option A
  | 0 => fun _ _ => none
  | n + 1 => fun v1 v2 => laws_szStringS_t1 ret (laws_szStringS_l1 ret k a n) a v1 v2
def laws_szStringS_t0 {A : Type} (ret : Int → Option A) (run1 : (List Str) → Int → Int → Option A) (a : (List Str)) (left : Int) : Option A :=
  bif (decide ((IntKind.wrap .i64 (left - (a.length : Int))) < (0 : Int))) then (ret (-1 : Int)) else (run1 a (IntKind.wrap .i64 (left - (a.length : Int))) (0 : Int))
def laws_szStringS_s {A : Type} (ret : Int → Option A) (k : Nat) (a : (List Str)) (left : Int) : Option A := laws_szStringS_t0 ret (fun a_ v1_ v2_ => laws_szStringS_l1 ret k a_ k v1_ v2_) a left
def laws_toStringS_t1 {A : Type} (ret : (List Str) → Option A) (rec1 : Int → (List Str) → Option A) (a : (List Str)) (v1 : Int) (v2 : (List Str)) : Option A :=
  bif (decide (v1 < (a.length : Int))) then (chk (decide (0 ≤ v1) && decide (v1 < (a.length : Int))) (chk (decide (0 ≤ v1) && decide (v1 < (v2.length : Int))) (rec1 (IntKind.wrap .i64 (v1 + (1 : Int))) (v2.set v1.toNat (a.getD v1.toNat ([] : Str)))))) else (ret v2)
def laws_toStringS_l1 {A : Type} (ret : (List Str) → Option A) (k : Nat) (a : (List Str)) : Nat → Int → (List Str) → Option A
  | 0 => fun _ _ => none
  | n + 1 => fun v1 v2 => laws_toStringS_t1 ret (laws_toStringS_l1 ret k a n) a v1 v2
def laws_toStringS_t0 {A : Type} (ret : (List Str) → Option A) (run1 : (List Str) → Int → (List Str) → Option A) (a : (List Str)) : Option A :=
  chk (decide (0 ≤ (a.length : Int)) && decide ((a.length : Int) ≤ (a.length : Int)) && decide ((a.length : Int) * 16 ≤ maxBytes)) (run1 a (0 : Int) (List.replicate (a.length : Int).toNat ([] : Str)))
def laws_toStringS_s {A : Type} (ret : (List Str) → Option A) (k : Nat) (a : (List Str)) : Option A := laws_toStringS_t0 ret (fun a_ v1_ v2_ => laws_toStringS_l1 ret k a_ k v1_ v2_) a
def laws_szPoint_s {A : Type} (ret : Int → Option A) (a : TPoint) (left : Int) : Option A :=
  bif (decide ((IntKind.wrap .i64 (left - (a.2.1.length : Int))) < (0 : Int))) then (ret (-1 : Int)) else (bif (decide ((IntKind.wrap .i64 ((IntKind.wrap .i64 (left - (a.2.1.length : Int))) - (a.2.2.1.length : Int))) < (0 : Int))) then (ret (-1 : Int)) else (ret (IntKind.wrap .i64 ((IntKind.wrap .i64 (left - (a.2.1.length : Int))) - (a.2.2.1.length : Int)))))
def laws_szPair_s {A : Type} (ret : Int → Option A) (a : TPair) (left : Int) : Option A :=
  bif (decide ((IntKind.wrap .i64 (left - (a.1.length : Int))) < (0 : Int))) then (ret (-1 : Int)) else (bif (decide ((IntKind.wrap .i64 ((IntKind.wrap .i64 (left - (a.1.length : Int))) - (a.2.1.length : Int))) < (0 : Int))) then (ret (-1 : Int)) else (ret (IntKind.wrap .i64 ((IntKind.wrap .i64 (left - (a.1.length : Int))) - (a.2.1.length : Int)))))
def laws_szPairPoint_s {A : Type} (ret : Int → Option A) (a : TPairPoint) (left : Int) : Option A :=
  chk (laws_szPair_pre a.2.1 left) (bif (decide ((laws_szPair_f a.2.1 left) < (0 : Int))) then (ret (-1 : Int)) else (chk (laws_szPair_pre a.2.2.1 (laws_szPair_f a.2.1 left)) (bif (decide ((laws_szPair_f a.2.2.1 (laws_szPair_f a.2.1 left)) < (0 : Int))) then (ret (-1 : Int)) else (ret (laws_szPair_f a.2.2.1 (laws_szPair_f a.2.1 left))))))
def laws_szIntS_s {A : Type} (ret : Int → Option A) (a : (List Int)) (left : Int) : Option A :=
  bif (decide ((IntKind.wrap .i64 (left - (a.length : Int))) < (0 : Int))) then (ret (-1 : Int)) else (ret (IntKind.wrap .i64 (left - (a.length : Int))))
def laws_szTerm_s {A : Type} (ret : Int → Option A) (a : TTerm) (left : Int) : Option A :=
  bif (decide ((IntKind.wrap .i64 (left - (a.2.1.length : Int))) < (0 : Int))) then (ret (-1 : Int)) else (ret (IntKind.wrap .i64 (left - (a.2.1.length : Int))))
def laws_szTermS_t1 {A : Type} (ret : Int → Option A) (rec1 : Int → Int → Option A) (a : (List TTerm)) (v2 : Int) (v3 : Int) : Option A :=
  bif (decide (v3 < (a.length : Int))) then (chk (decide (0 ≤ v3) && decide (v3 < (a.length : Int))) (chk (laws_szTerm_pre (a.getD v3.toNat ((0 : Int), (([] : Str), ()))) v2) ((let y7 : Int := laws_szTerm_f (a.getD v3.toNat ((0 : Int), (([] : Str), ()))) v2; bif (decide (y7 < (0 : Int))) then (ret (-1 : Int)) else (rec1 y7 (IntKind.wrap .i64 (v3 + (1 : Int)))))))) else (ret v2)
def laws_szTermS_l1 {A : Type} (ret : Int → Option A) (k : Nat) (a : (List TTerm)) : Nat → Int → Int → Option A
  | 0 => fun _ _ => none
  | n + 1 => fun v2 v3 => laws_szTermS_t1 ret (laws_szTermS_l1 ret k a n) a v2 v3
def laws_szTermS_t0 {A : Type} (ret : Int → Option A) (run1 : (List TTerm) → Int → Int → Option A) (a : (List TTerm)) (left : Int) : Option A :=
  bif (decide ((IntKind.wrap .i64 (left - (a.length : Int))) < (0 : Int))) then (ret (-1 : Int)) else (run1 a (IntKind.wrap .i64 (left - (a.length : Int))) (0 : Int))
def laws_szTermS_s {A : Type} (ret : Int → Option A) (k : Nat) (a : (List TTerm)) (left : Int) : Option A := laws_szTermS_t0 ret (fun a_ v2_ v3_ => laws_szTermS_l1 ret k a_ k v2_ v3_) a left
def laws_szRow_s {A : Type} (ret : Int → Option A) (a : TRow) (left : Int) : Option A :=
  chk (laws_szTermS_pre a.1 left) (bif (decide ((laws_szTermS_f a.1 left) < (0 : Int))) then (ret (-1 : Int)) else (chk (laws_szTermS_pre a.2.1 (laws_szTermS_f a.1 left)) (bif (decide ((laws_szTermS_f a.2.1 (laws_szTermS_f a.1 left)) < (0 : Int))) then (ret (-1 : Int)) else (chk (laws_szTermS_pre a.2.2.1 (laws_szTermS_f a.2.1 (laws_szTermS_f a.1 left))) ((let y1 : Int := laws_szTermS_f a.2.2.1 (laws_szTermS_f a.2.1 (laws_szTermS_f a.1 left)); bif (decide (y1 < (0 : Int))) then (ret (-1 : Int)) else (ret y1)))))))
def laws_szRowS_t1 {A : Type} (ret : Int → Option A) (rec1 : Int → Int → Option A) (a : (List TRow)) (v2 : Int) (v3 : Int) : Option A :=
  bif (decide (v3 < (a.length : Int))) then (chk (decide (0 ≤ v3) && decide (v3 < (a.length : Int))) (chk (laws_szRow_pre (a.getD v3.toNat (([] : (List TTerm)), (([] : (List TTerm)), (([] : (List TTerm)), ())))) v2) ((let y7 : Int := laws_szRow_f (a.getD v3.toNat (([] : (List TTerm)), (([] : (List TTerm)), (([] : (List TTerm)), ())))) v2; bif (decide (y7 < (0 : Int))) then (ret (-1 : Int)) else (rec1 y7 (IntKind.wrap .i64 (v3 + (1 : Int)))))))) else (ret v2)
def laws_szRowS_l1 {A : Type} (ret : Int → Option A) (k : Nat) (a : (List TRow)) : Nat → Int → Int → Option A
  | 0 => fun _ _ => none
  | n + 1 => fun v2 v3 => laws_szRowS_t1 ret (laws_szRowS_l1 ret k a n) a v2 v3
def laws_szRowS_t0 {A : Type} (ret : Int → Option A) (run1 : (List TRow) → Int → Int → Option A) (a : (List TRow)) (left : Int) : Option A :=
  bif (decide ((IntKind.wrap .i64 (left - (a.length : Int))) < (0 : Int))) then (ret (-1 : Int)) else (run1 a (IntKind.wrap .i64 (left - (a.length : Int))) (0 : Int))
def laws_szRowS_s {A : Type} (ret : Int → Option A) (k : Nat) (a : (List TRow)) (left : Int) : Option A := laws_szRowS_t0 ret (fun a_ v2_ v3_ => laws_szRowS_l1 ret k a_ k v2_ v3_) a left
def laws_szSystem_s {A : Type} (ret : Int → Option A) (a : TSystem) (left : Int) : Option A :=
  chk (laws_szIntS_pre a.2.2.2.2.2.1 left) (bif (decide ((laws_szIntS_f a.2.2.2.2.2.1 left) < (0 : Int))) then (ret (-1 : Int)) else (chk (laws_szRowS_pre a.2.2.2.2.2.2.1 (laws_szIntS_f a.2.2.2.2.2.1 left)) ((let y1 : Int := laws_szRowS_f a.2.2.2.2.2.2.1 (laws_szIntS_f a.2.2.2.2.2.1 left); bif (decide (y1 < (0 : Int))) then (ret (-1 : Int)) else (ret y1)))))
def laws_szWitness_s {A : Type} (ret : Int → Option A) (a : TWitness) (left : Int) : Option A :=
  chk (laws_szStringS_pre a.2.1 left) (bif (decide ((laws_szStringS_f a.2.1 left) < (0 : Int))) then (ret (-1 : Int)) else (ret (laws_szStringS_f a.2.1 left)))
def laws_szPointS_t1 {A : Type} (ret : Int → Option A) (rec1 : Int → Int → Option A) (a : (List TPoint)) (v2 : Int) (v3 : Int) : Option A :=
  bif (decide (v3 < (a.length : Int))) then (chk (decide (0 ≤ v3) && decide (v3 < (a.length : Int))) (chk (laws_szPoint_pre (a.getD v3.toNat (false, (([] : Str), (([] : Str), ())))) v2) ((let y7 : Int := laws_szPoint_f (a.getD v3.toNat (false, (([] : Str), (([] : Str), ())))) v2; bif (decide (y7 < (0 : Int))) then (ret (-1 : Int)) else (rec1 y7 (IntKind.wrap .i64 (v3 + (1 : Int)))))))) else (ret v2)
def laws_szPointS_l1 {A : Type} (ret : Int → Option A) (k : Nat) (a : (List TPoint)) : Nat → Int → Int → Option A
  | 0 => fun _ _ => none
  | n + 1 => fun v2 v3 => laws_szPointS_t1 ret (laws_szPointS_l1 ret k a n) a v2 v3
def laws_szPointS_t0 {A : Type} (ret : Int → Option A) (run1 : (List TPoint) → Int → Int → Option A) (a : (List TPoint)) (left : Int) : Option A :=
  bif (decide ((IntKind.wrap .i64 (left - (a.length : Int))) < (0 : Int))) then (ret (-1 : Int)) else (run1 a (IntKind.wrap .i64 (left - (a.length : Int))) (0 : Int))
def laws_szPointS_s {A : Type} (ret : Int → Option A) (k : Nat) (a : (List TPoint)) (left : Int) : Option A := laws_szPointS_t0 ret (fun a_ v2_ v3_ => laws_szPointS_l1 ret k a_ k v2_ v3_) a left
def laws_szKey_s {A : Type} (ret : Int → Option A) (a : TKey) (left : Int) : Option A :=
  chk (laws_szPoint_pre a.2.1 left) (bif (decide ((laws_szPoint_f a.2.1 left) < (0 : Int))) then (ret (-1 : Int)) else (chk (laws_szPairPoint_pre a.2.2.1 (laws_szPoint_f a.2.1 left)) (bif (decide ((laws_szPairPoint_f a.2.2.1 (laws_szPoint_f a.2.1 left)) < (0 : Int))) then (ret (-1 : Int)) else (chk (laws_szPairPoint_pre a.2.2.2.1 (laws_szPairPoint_f a.2.2.1 (laws_szPoint_f a.2.1 left))) ((let y1 : Int := laws_szPairPoint_f a.2.2.2.1 (laws_szPairPoint_f a.2.2.1 (laws_szPoint_f a.2.1 left)); bif (decide (y1 < (0 : Int))) then (ret (-1 : Int)) else (chk (laws_szPairPoint_pre a.2.2.2.2.1 y1) (bif (decide ((laws_szPairPoint_f a.2.2.2.2.1 y1) < (0 : Int))) then (ret (-1 : Int)) else (chk (laws_szPointS_pre a.2.2.2.2.2.1 (laws_szPairPoint_f a.2.2.2.2.1 y1)) ((let y2 : Int := laws_szPointS_f a.2.2.2.2.2.1 (laws_szPairPoint_f a.2.2.2.2.1 y1); bif (decide (y2 < (0 : Int))) then (ret (-1 : Int)) else (ret y2))))))))))))
def laws_szProof_s {A : Type} (ret : Int → Option A) (a : TProof) (left : Int) : Option A :=
  chk (laws_szPoint_pre a.2.1 left) (bif (decide ((laws_szPoint_f a.2.1 left) < (0 : Int))) then (ret (-1 : Int)) else (chk (laws_szPairPoint_pre a.2.2.1 (laws_szPoint_f a.2.1 left)) (bif (decide ((laws_szPairPoint_f a.2.2.1 (laws_szPoint_f a.2.1 left)) < (0 : Int))) then (ret (-1 : Int)) else (chk (laws_szPoint_pre a.2.2.2.1 (laws_szPairPoint_f a.2.2.1 (laws_szPoint_f a.2.1 left))) ((let y1 : Int := laws_szPoint_f a.2.2.2.1 (laws_szPairPoint_f a.2.2.1 (laws_szPoint_f a.2.1 left)); bif (decide (y1 < (0 : Int))) then (ret (-1 : Int)) else (ret y1)))))))
def laws_szArtefact_s {A : Type} (ret : Int → Option A) (a : TArtefact) (left : Int) : Option A :=
  chk (laws_szPoint_pre a.2.2.1 left) (bif (decide ((laws_szPoint_f a.2.2.1 left) < (0 : Int))) then (ret (-1 : Int)) else (chk (laws_szPairPoint_pre a.2.2.2.1 (laws_szPoint_f a.2.2.1 left)) (bif (decide ((laws_szPairPoint_f a.2.2.2.1 (laws_szPoint_f a.2.2.1 left)) < (0 : Int))) then (ret (-1 : Int)) else (chk (laws_szSystem_pre a.2.2.2.2.1 (laws_szPairPoint_f a.2.2.2.1 (laws_szPoint_f a.2.2.1 left))) ((let y1 : Int := laws_szSystem_f a.2.2.2.2.1 (laws_szPairPoint_f a.2.2.2.1 (laws_szPoint_f a.2.2.1 left)); bif (decide (y1 < (0 : Int))) then (ret (-1 : Int)) else (chk (laws_szWitness_pre a.2.2.2.2.2.1 y1) (bif (decide ((laws_szWitness_f a.2.2.2.2.2.1 y1) < (0 : Int))) then (ret (-1 : Int)) else (chk (laws_szKey_pre a.2.2.2.2.2.2.1 (laws_szWitness_f a.2.2.2.2.2.1 y1)) ((let y2 : Int := laws_szKey_f a.2.2.2.2.2.2.1 (laws_szWitness_f a.2.2.2.2.2.1 y1); bif (decide (y2 < (0 : Int))) then (ret (-1 : Int)) else (chk (laws_szProof_pre a.2.2.2.2.2.2.2.1 y2) (bif (decide ((laws_szProof_f a.2.2.2.2.2.2.2.1 y2) < (0 : Int))) then (ret (-1 : Int)) else (ret (laws_szProof_f a.2.2.2.2.2.2.2.1 y2)))))))))))))))
def laws_toPoint_s {A : Type} (ret : TPoint → Option A) (a : TPoint) : Option A :=
  ret a
def laws_toPair_s {A : Type} (ret : TPair → Option A) (a : TPair) : Option A :=
  ret a
def laws_toPairPoint_s {A : Type} (ret : TPairPoint → Option A) (a : TPairPoint) : Option A :=
  (let y1 : TPair := laws_toPair_f a.2.1; (let y2 : TPair := laws_toPair_f a.2.2.1; ret (a.1, ((y1.1, (y1.2.1, ())), ((y2.1, (y2.2.1, ())), ())))))
def laws_toTerm_s {A : Type} (ret : TTerm → Option A) (a : TTerm) : Option A :=
  ret a
def laws_toTermS_t1 {A : Type} (ret : (List TTerm) → Option A) (rec1 : Int → (List TTerm) → Option A) (a : (List TTerm)) (v2 : Int) (v3 : (List TTerm)) : Option A :=
  bif (decide (v2 < (a.length : Int))) then (chk (decide (0 ≤ v2) && decide (v2 < (a.length : Int))) ((let y7 : TTerm := laws_toTerm_f (a.getD v2.toNat ((0 : Int), (([] : Str), ()))); chk (decide (0 ≤ v2) && decide (v2 < (v3.length : Int))) (rec1 (IntKind.wrap .i64 (v2 + (1 : Int))) (v3.set v2.toNat y7))))) else (ret v3)
def laws_toTermS_l1 {A : Type} (ret : (List TTerm) → Option A) (k : Nat) (a : (List TTerm)) : Nat → Int → (List TTerm) → Option A
  | 0 => fun _ _ => none
  | n + 1 => fun v2 v3 => laws_toTermS_t1 ret (laws_toTermS_l1 ret k a n) a v2 v3
def laws_toTermS_t0 {A : Type} (ret : (List TTerm) → Option A) (run1 : (List TTerm) → Int → (List TTerm) → Option A) (a : (List TTerm)) : Option A :=
  chk (decide (0 ≤ (a.length : Int)) && decide ((a.length : Int) ≤ (a.length : Int)) && decide ((a.length : Int) * 24 ≤ maxBytes)) (run1 a (0 : Int) (List.replicate (a.length : Int).toNat ((0 : Int), (([] : Str), ()))))
def laws_toTermS_s {A : Type} (ret : (List TTerm) → Option A) (k : Nat) (a : (List TTerm)) : Option A := laws_toTermS_t0 ret (fun a_ v2_ v3_ => laws_toTermS_l1 ret k a_ k v2_ v3_) a
def laws_toRow_s {A : Type} (ret : TRow → Option A) (a : TRow) : Option A :=
  chk (laws_toTermS_pre a.1) ((let y1 : (List TTerm) := laws_toTermS_f a.1; chk (laws_toTermS_pre a.2.1) ((let y2 : (List TTerm) := laws_toTermS_f a.2.1; chk (laws_toTermS_pre a.2.2.1) ((let y3 : (List TTerm) := laws_toTermS_f a.2.2.1; ret (y1, (y2, (y3, ())))))))))
def laws_toRowS_t1 {A : Type} (ret : (List TRow) → Option A) (rec1 : Int → (List TRow) → Option A) (a : (List TRow)) (v2 : Int) (v3 : (List TRow)) : Option A :=
  bif (decide (v2 < (a.length : Int))) then (chk (decide (0 ≤ v2) && decide (v2 < (a.length : Int))) (chk (laws_toRow_pre (a.getD v2.toNat (([] : (List TTerm)), (([] : (List TTerm)), (([] : (List TTerm)), ()))))) ((let y7 : TRow := laws_toRow_f (a.getD v2.toNat (([] : (List TTerm)), (([] : (List TTerm)), (([] : (List TTerm)), ())))); chk (decide (0 ≤ v2) && decide (v2 < (v3.length : Int))) (rec1 (IntKind.wrap .i64 (v2 + (1 : Int))) (v3.set v2.toNat y7)))))) else (ret v3)
def laws_toRowS_l1 {A : Type} (ret : (List TRow) → Option A) (k : Nat) (a : (List TRow)) : Nat → Int → (List TRow) → Option A
  | 0 => fun _ _ => none
  | n + 1 => fun v2 v3 => laws_toRowS_t1 ret (laws_toRowS_l1 ret k a n) a v2 v3
def laws_toRowS_t0 {A : Type} (ret : (List TRow) → Option A) (run1 : (List TRow) → Int → (List TRow) → Option A) (a : (List TRow)) : Option A :=
  chk (decide (0 ≤ (a.length : Int)) && decide ((a.length : Int) ≤ (a.length : Int)) && decide ((a.length : Int) * 72 ≤ maxBytes)) (run1 a (0 : Int) (List.replicate (a.length : Int).toNat (([] : (List TTerm)), (([] : (List TTerm)), (([] : (List TTerm)), ())))))
def laws_toRowS_s {A : Type} (ret : (List TRow) → Option A) (k : Nat) (a : (List TRow)) : Option A := laws_toRowS_t0 ret (fun a_ v2_ v3_ => laws_toRowS_l1 ret k a_ k v2_ v3_) a
def laws_toSystem_s {A : Type} (ret : TSystem → Option A) (a : TSystem) : Option A :=
  chk (laws_toIntS_pre a.2.2.2.2.2.1) ((let y1 : (List Int) := laws_toIntS_f a.2.2.2.2.2.1; chk (laws_toRowS_pre a.2.2.2.2.2.2.1) ((let y2 : (List TRow) := laws_toRowS_f a.2.2.2.2.2.2.1; ret (a.1, (a.2.1, (a.2.2.1, (a.2.2.2.1, (a.2.2.2.2.1, (y1, (y2, ())))))))))))
def laws_toWitness_s {A : Type} (ret : TWitness → Option A) (a : TWitness) : Option A :=
  chk (laws_toStringS_pre a.2.1) ((let y1 : (List Str) := laws_toStringS_f a.2.1; ret (a.1, (y1, ()))))
def laws_toPointS_t1 {A : Type} (ret : (List TPoint) → Option A) (rec1 : Int → (List TPoint) → Option A) (a : (List TPoint)) (v2 : Int) (v3 : (List TPoint)) : Option A :=
  bif (decide (v2 < (a.length : Int))) then (chk (decide (0 ≤ v2) && decide (v2 < (a.length : Int))) ((let y7 : TPoint := laws_toPoint_f (a.getD v2.toNat (false, (([] : Str), (([] : Str), ())))); chk (decide (0 ≤ v2) && decide (v2 < (v3.length : Int))) (rec1 (IntKind.wrap .i64 (v2 + (1 : Int))) (v3.set v2.toNat y7))))) else (ret v3)
def laws_toPointS_l1 {A : Type} (ret : (List TPoint) → Option A) (k : Nat) (a : (List TPoint)) : Nat → Int → (List TPoint) → Option A
  | 0 => fun _ _ => none
  | n + 1 => fun v2 v3 => laws_toPointS_t1 ret (laws_toPointS_l1 ret k a n) a v2 v3
def laws_toPointS_t0 {A : Type} (ret : (List TPoint) → Option A) (run1 : (List TPoint) → Int → (List TPoint) → Option A) (a : (List TPoint)) : Option A :=
  chk (decide (0 ≤ (a.length : Int)) && decide ((a.length : Int) ≤ (a.length : Int)) && decide ((a.length : Int) * 40 ≤ maxBytes)) (run1 a (0 : Int) (List.replicate (a.length : Int).toNat (false, (([] : Str), (([] : Str), ())))))
def laws_toPointS_s {A : Type} (ret : (List TPoint) → Option A) (k : Nat) (a : (List TPoint)) : Option A := laws_toPointS_t0 ret (fun a_ v2_ v3_ => laws_toPointS_l1 ret k a_ k v2_ v3_) a
def laws_toKey_s {A : Type} (ret : TKey → Option A) (a : TKey) : Option A :=
  (let y1 : TPoint := laws_toPoint_f a.2.1; (let y2 : TPairPoint := laws_toPairPoint_f a.2.2.1; (let y3 : TPairPoint := laws_toPairPoint_f a.2.2.2.1; (let y4 : TPairPoint := laws_toPairPoint_f a.2.2.2.2.1; chk (laws_toPointS_pre a.2.2.2.2.2.1) ((let y5 : (List TPoint) := laws_toPointS_f a.2.2.2.2.2.1; ret (a.1, ((y1.1, (y1.2.1, (y1.2.2.1, ()))), ((y2.1, ((y2.2.1.1, (y2.2.1.2.1, ())), ((y2.2.2.1.1, (y2.2.2.1.2.1, ())), ()))), ((y3.1, ((y3.2.1.1, (y3.2.1.2.1, ())), ((y3.2.2.1.1, (y3.2.2.1.2.1, ())), ()))), ((y4.1, ((y4.2.1.1, (y4.2.1.2.1, ())), ((y4.2.2.1.1, (y4.2.2.1.2.1, ())), ()))), (y5, ()))))))))))))
def laws_toProof_s {A : Type} (ret : TProof → Option A) (a : TProof) : Option A :=
  (let y1 : TPoint := laws_toPoint_f a.2.1; (let y2 : TPairPoint := laws_toPairPoint_f a.2.2.1; (let y3 : TPoint := laws_toPoint_f a.2.2.2.1; ret (a.1, ((y1.1, (y1.2.1, (y1.2.2.1, ()))), ((y2.1, ((y2.2.1.1, (y2.2.1.2.1, ())), ((y2.2.2.1.1, (y2.2.2.1.2.1, ())), ()))), ((y3.1, (y3.2.1, (y3.2.2.1, ()))), ())))))))
def laws_toArtefact_s {A : Type} (ret : TArtefact → Option A) (a : TArtefact) : Option A :=
  (let y1 : TPoint := laws_toPoint_f a.2.2.1; (let y2 : TPairPoint := laws_toPairPoint_f a.2.2.2.1; chk (laws_toSystem_pre a.2.2.2.2.1) ((let y3 : TSystem := laws_toSystem_f a.2.2.2.2.1; chk (laws_toWitness_pre a.2.2.2.2.2.1) ((let y4 : TWitness := laws_toWitness_f a.2.2.2.2.2.1; chk (laws_toKey_pre a.2.2.2.2.2.2.1) ((let y5 : TKey := laws_toKey_f a.2.2.2.2.2.2.1; (let y6 : TProof := laws_toProof_f a.2.2.2.2.2.2.2.1; ret (a.1, (a.2.1, ((y1.1, (y1.2.1, (y1.2.2.1, ()))), ((y2.1, ((y2.2.1.1, (y2.2.1.2.1, ())), ((y2.2.2.1.1, (y2.2.2.1.2.1, ())), ()))), ((y3.1, (y3.2.1, (y3.2.2.1, (y3.2.2.2.1, (y3.2.2.2.2.1, (y3.2.2.2.2.2.1, (y3.2.2.2.2.2.2.1, ()))))))), ((y4.1, (y4.2.1, ())), ((y5.1, ((y5.2.1.1, (y5.2.1.2.1, (y5.2.1.2.2.1, ()))), ((y5.2.2.1.1, ((y5.2.2.1.2.1.1, (y5.2.2.1.2.1.2.1, ())), ((y5.2.2.1.2.2.1.1, (y5.2.2.1.2.2.1.2.1, ())), ()))), ((y5.2.2.2.1.1, ((y5.2.2.2.1.2.1.1, (y5.2.2.2.1.2.1.2.1, ())), ((y5.2.2.2.1.2.2.1.1, (y5.2.2.2.1.2.2.1.2.1, ())), ()))), ((y5.2.2.2.2.1.1, ((y5.2.2.2.2.1.2.1.1, (y5.2.2.2.2.1.2.1.2.1, ())), ((y5.2.2.2.2.1.2.2.1.1, (y5.2.2.2.2.1.2.2.1.2.1, ())), ()))), (y5.2.2.2.2.2.1, ())))))), ((y6.1, ((y6.2.1.1, (y6.2.1.2.1, (y6.2.1.2.2.1, ()))), ((y6.2.2.1.1, ((y6.2.2.1.2.1.1, (y6.2.2.1.2.1.2.1, ())), ((y6.2.2.1.2.2.1.1, (y6.2.2.1.2.2.1.2.1, ())), ()))), ((y6.2.2.2.1.1, (y6.2.2.2.1.2.1, (y6.2.2.2.1.2.2.1, ()))), ())))), ())))))))))))))))))
def laws_eqPoint_s {A : Type} (ret : Bool → Option A) (a : TPoint) (b : TPoint) : Option A :=
  bif (!(a.1 == b.1)) then (ret false) else (bif (!(a.2.1 == b.2.1)) then (ret false) else (bif (!(a.2.2.1 == b.2.2.1)) then (ret false) else (ret true)))
def laws_eqPair_s {A : Type} (ret : Bool → Option A) (a : TPair) (b : TPair) : Option A :=
  bif (!(a.1 == b.1)) then (ret false) else (bif (!(a.2.1 == b.2.1)) then (ret false) else (ret true))
def laws_eqPairPoint_s {A : Type} (ret : Bool → Option A) (a : TPairPoint) (b : TPairPoint) : Option A :=
  bif (!(a.1 == b.1)) then (ret false) else (bif (!(laws_eqPair_f a.2.1 b.2.1)) then (ret false) else (bif (!(laws_eqPair_f a.2.2.1 b.2.2.1)) then (ret false) else (ret true)))
def laws_eqTerm_s {A : Type} (ret : Bool → Option A) (a : TTerm) (b : TTerm) : Option A :=
  bif (a.1 != b.1) then (ret false) else (bif (!(a.2.1 == b.2.1)) then (ret false) else (ret true))
def laws_eqTermS_t1 {A : Type} (ret : Bool → Option A) (rec1 : Int → Option A) (a : (List TTerm)) (b : (List TTerm)) (v2 : Int) : Option A :=
  bif (decide (v2 < (a.length : Int))) then (chk (decide (0 ≤ v2) && decide (v2 < (a.length : Int))) (chk (decide (0 ≤ v2) && decide (v2 < (b.length : Int))) ((let y5 : Bool := laws_eqTerm_f (a.getD v2.toNat ((0 : Int), (([] : Str), ()))) (b.getD v2.toNat ((0 : Int), (([] : Str), ()))); bif (!y5) then (ret false) else (rec1 (IntKind.wrap .i64 (v2 + (1 : Int)))))))) else (ret true)
def laws_eqTermS_l1 {A : Type} (ret : Bool → Option A) (k : Nat) (a : (List TTerm)) (b : (List TTerm)) : Nat → Int → Option A
  | 0 => fun _ => none
  | n + 1 => fun v2 => laws_eqTermS_t1 ret (laws_eqTermS_l1 ret k a b n) a b v2
def laws_eqTermS_t0 {A : Type} (ret : Bool → Option A) (run1 : (List TTerm) → (List TTerm) → Int → Option A) (a : (List TTerm)) (b : (List TTerm)) : Option A :=
  bif ((a.length : Int) != (b.length : Int)) then (ret false) else (run1 a b (0 : Int))
def laws_eqTermS_s {A : Type} (ret : Bool → Option A) (k : Nat) (a : (List TTerm)) (b : (List TTerm)) : Option A := laws_eqTermS_t0 ret (fun a_ b_ v2_ => laws_eqTermS_l1 ret k a_ b_ k v2_) a b
def laws_eqRow_s {A : Type} (ret : Bool → Option A) (a : TRow) (b : TRow) : Option A :=
  chk (laws_eqTermS_pre a.1 b.1) (bif (!(laws_eqTermS_f a.1 b.1)) then (ret false) else (chk (laws_eqTermS_pre a.2.1 b.2.1) (bif (!(laws_eqTermS_f a.2.1 b.2.1)) then (ret false) else (chk (laws_eqTermS_pre a.2.2.1 b.2.2.1) (bif (!(laws_eqTermS_f a.2.2.1 b.2.2.1)) then (ret false) else (ret true))))))
def laws_eqRowS_t1 {A : Type} (ret : Bool → Option A) (rec1 : Int → Option A) (a : (List TRow)) (b : (List TRow)) (v2 : Int) : Option A :=
  bif (decide (v2 < (a.length : Int))) then (chk (decide (0 ≤ v2) && decide (v2 < (a.length : Int))) (chk (decide (0 ≤ v2) && decide (v2 < (b.length : Int))) (chk (laws_eqRow_pre (a.getD v2.toNat (([] : (List TTerm)), (([] : (List TTerm)), (([] : (List TTerm)), ())))) (b.getD v2.toNat (([] : (List TTerm)), (([] : (List TTerm)), (([] : (List TTerm)), ()))))) ((let y5 : Bool := laws_eqRow_f (a.getD v2.toNat (([] : (List TTerm)), (([] : (List TTerm)), (([] : (List TTerm)), ())))) (b.getD v2.toNat (([] : (List TTerm)), (([] : (List TTerm)), (([] : (List TTerm)), ())))); bif (!y5) then (ret false) else (rec1 (IntKind.wrap .i64 (v2 + (1 : Int))))))))) else (ret true)
def laws_eqRowS_l1 {A : Type} (ret : Bool → Option A) (k : Nat) (a : (List TRow)) (b : (List TRow)) : Nat → Int → Option A
  | 0 => fun _ => none
  | n + 1 => fun v2 => laws_eqRowS_t1 ret (laws_eqRowS_l1 ret k a b n) a b v2
def laws_eqRowS_t0 {A : Type} (ret : Bool → Option A) (run1 : (List TRow) → (List TRow) → Int → Option A) (a : (List TRow)) (b : (List TRow)) : Option A :=
  bif ((a.length : Int) != (b.length : Int)) then (ret false) else (run1 a b (0 : Int))
def laws_eqRowS_s {A : Type} (ret : Bool → Option A) (k : Nat) (a : (List TRow)) (b : (List TRow)) : Option A := laws_eqRowS_t0 ret (fun a_ b_ v2_ => laws_eqRowS_l1 ret k a_ b_ k v2_) a b
def laws_eqSystem_s {A : Type} (ret : Bool → Option A) (a : TSystem) (b : TSystem) : Option A :=
  bif (a.1 != b.1) then (ret false) else (bif (a.2.1 != b.2.1) then (ret false) else (bif (a.2.2.1 != b.2.2.1) then (ret false) else (bif (a.2.2.2.1 != b.2.2.2.1) then (ret false) else (bif (a.2.2.2.2.1 != b.2.2.2.2.1) then (ret false) else (chk (laws_eqIntS_pre a.2.2.2.2.2.1 b.2.2.2.2.2.1) (bif (!(laws_eqIntS_f a.2.2.2.2.2.1 b.2.2.2.2.2.1)) then (ret false) else (chk (laws_eqRowS_pre a.2.2.2.2.2.2.1 b.2.2.2.2.2.2.1) (bif (!(laws_eqRowS_f a.2.2.2.2.2.2.1 b.2.2.2.2.2.2.1)) then (ret false) else (ret true)))))))))
def laws_eqWitness_s {A : Type} (ret : Bool → Option A) (a : TWitness) (b : TWitness) : Option A :=
  bif (a.1 != b.1) then (ret false) else (chk (laws_eqStringS_pre a.2.1 b.2.1) (bif (!(laws_eqStringS_f a.2.1 b.2.1)) then (ret false) else (ret true)))
def laws_eqPointS_t1 {A : Type} (ret : Bool → Option A) (rec1 : Int → Option A) (a : (List TPoint)) (b : (List TPoint)) (v2 : Int) : Option A :=
  bif (decide (v2 < (a.length : Int))) then (chk (decide (0 ≤ v2) && decide (v2 < (a.length : Int))) (chk (decide (0 ≤ v2) && decide (v2 < (b.length : Int))) ((let y5 : Bool := laws_eqPoint_f (a.getD v2.toNat (false, (([] : Str), (([] : Str), ())))) (b.getD v2.toNat (false, (([] : Str), (([] : Str), ())))); bif (!y5) then (ret false) else (rec1 (IntKind.wrap .i64 (v2 + (1 : Int)))))))) else (ret true)
def laws_eqPointS_l1 {A : Type} (ret : Bool → Option A) (k : Nat) (a : (List TPoint)) (b : (List TPoint)) : Nat → Int → Option A
  | 0 => fun _ => none
  | n + 1 => fun v2 => laws_eqPointS_t1 ret (laws_eqPointS_l1 ret k a b n) a b v2
def laws_eqPointS_t0 {A : Type} (ret : Bool → Option A) (run1 : (List TPoint) → (List TPoint) → Int → Option A) (a : (List TPoint)) (b : (List TPoint)) : Option A :=
  bif ((a.length : Int) != (b.length : Int)) then (ret false) else (run1 a b (0 : Int))
def laws_eqPointS_s {A : Type} (ret : Bool → Option A) (k : Nat) (a : (List TPoint)) (b : (List TPoint)) : Option A := laws_eqPointS_t0 ret (fun a_ b_ v2_ => laws_eqPointS_l1 ret k a_ b_ k v2_) a b
def laws_eqKey_s {A : Type} (ret : Bool → Option A) (a : TKey) (b : TKey) : Option A :=
  bif (a.1 != b.1) then (ret false) else (bif (!(laws_eqPoint_f a.2.1 b.2.1)) then (ret false) else (bif (!(laws_eqPairPoint_f a.2.2.1 b.2.2.1)) then (ret false) else (bif (!(laws_eqPairPoint_f a.2.2.2.1 b.2.2.2.1)) then (ret false) else (bif (!(laws_eqPairPoint_f a.2.2.2.2.1 b.2.2.2.2.1)) then (ret false) else (chk (laws_eqPointS_pre a.2.2.2.2.2.1 b.2.2.2.2.2.1) (bif (!(laws_eqPointS_f a.2.2.2.2.2.1 b.2.2.2.2.2.1)) then (ret false) else (ret true)))))))
def laws_eqProof_s {A : Type} (ret : Bool → Option A) (a : TProof) (b : TProof) : Option A :=
  bif (a.1 != b.1) then (ret false) else (bif (!(laws_eqPoint_f a.2.1 b.2.1)) then (ret false) else (bif (!(laws_eqPairPoint_f a.2.2.1 b.2.2.1)) then (ret false) else (bif (!(laws_eqPoint_f a.2.2.2.1 b.2.2.2.1)) then (ret false) else (ret true))))
def laws_eqArtefact_s {A : Type} (ret : Bool → Option A) (a : TArtefact) (b : TArtefact) : Option A :=
  bif (a.1 != b.1) then (ret false) else (bif (a.2.1 != b.2.1) then (ret false) else (bif (!(laws_eqPoint_f a.2.2.1 b.2.2.1)) then (ret false) else (bif (!(laws_eqPairPoint_f a.2.2.2.1 b.2.2.2.1)) then (ret false) else (chk (laws_eqSystem_pre a.2.2.2.2.1 b.2.2.2.2.1) (bif (!(laws_eqSystem_f a.2.2.2.2.1 b.2.2.2.2.1)) then (ret false) else (chk (laws_eqWitness_pre a.2.2.2.2.2.1 b.2.2.2.2.2.1) (bif (!(laws_eqWitness_f a.2.2.2.2.2.1 b.2.2.2.2.2.1)) then (ret false) else (chk (laws_eqKey_pre a.2.2.2.2.2.2.1 b.2.2.2.2.2.2.1) (bif (!(laws_eqKey_f a.2.2.2.2.2.2.1 b.2.2.2.2.2.2.1)) then (ret false) else (bif (!(laws_eqProof_f a.2.2.2.2.2.2.2.1 b.2.2.2.2.2.2.2.1)) then (ret false) else (ret true)))))))))))
def spec_SameCombo_t1 {A : Type} (ret : Bool → Option A) (rec1 : Int → Option A) (a : (List TTerm)) (b : (List TTerm)) (v1 : Int) : Option A :=
  bif (decide (v1 < (a.length : Int))) then (chk (decide (0 ≤ v1) && decide (v1 < (a.length : Int))) (chk (decide (0 ≤ v1) && decide (v1 < (b.length : Int))) (bif (!(eqD (.pair (.int .i64) (.pair .str .unit)) (a.getD v1.toNat ((0 : Int), (([] : Str), ()))) (b.getD v1.toNat ((0 : Int), (([] : Str), ()))))) then (ret false) else (rec1 (IntKind.wrap .i64 (v1 + (1 : Int))))))) else (ret true)
def spec_SameCombo_l1 {A : Type} (ret : Bool → Option A) (k : Nat) (a : (List TTerm)) (b : (List TTerm)) : Nat → Int → Option A
  | 0 => fun _ => none
  | n + 1 => fun v1 => spec_SameCombo_t1 ret (spec_SameCombo_l1 ret k a b n) a b v1
def spec_SameCombo_t0 {A : Type} (ret : Bool → Option A) (run1 : (List TTerm) → (List TTerm) → Int → Option A) (a : (List TTerm)) (b : (List TTerm)) : Option A :=
  bif ((a.length : Int) != (b.length : Int)) then (ret false) else (run1 a b (0 : Int))
def spec_SameCombo_s {A : Type} (ret : Bool → Option A) (k : Nat) (a : (List TTerm)) (b : (List TTerm)) : Option A := spec_SameCombo_t0 ret (fun a_ b_ v1_ => spec_SameCombo_l1 ret k a_ b_ k v1_) a b
def spec_SameSystem_t2 {A : Type} (ret : Bool → Option A) (rec2 : Int → Option A) (a0 : TSystem) (a1 : TSystem) (v6 : Int) : Option A :=
  bif (decide (v6 < (a0.2.2.2.2.2.2.1.length : Int))) then (chk (decide (0 ≤ v6) && decide (v6 < (a0.2.2.2.2.2.2.1.length : Int))) (chk (decide (0 ≤ v6) && decide (v6 < (a1.2.2.2.2.2.2.1.length : Int))) (chk (spec_SameCombo_pre (a0.2.2.2.2.2.2.1.getD v6.toNat (([] : (List TTerm)), (([] : (List TTerm)), (([] : (List TTerm)), ())))).1 (a1.2.2.2.2.2.2.1.getD v6.toNat (([] : (List TTerm)), (([] : (List TTerm)), (([] : (List TTerm)), ())))).1) ((let y11 : Bool := spec_SameCombo_f (a0.2.2.2.2.2.2.1.getD v6.toNat (([] : (List TTerm)), (([] : (List TTerm)), (([] : (List TTerm)), ())))).1 (a1.2.2.2.2.2.2.1.getD v6.toNat (([] : (List TTerm)), (([] : (List TTerm)), (([] : (List TTerm)), ())))).1; bif (!y11) then (ret false) else (chk (decide (0 ≤ v6) && decide (v6 < (a0.2.2.2.2.2.2.1.length : Int))) (chk (decide (0 ≤ v6) && decide (v6 < (a1.2.2.2.2.2.2.1.length : Int))) (chk (spec_SameCombo_pre (a0.2.2.2.2.2.2.1.getD v6.toNat (([] : (List TTerm)), (([] : (List TTerm)), (([] : (List TTerm)), ())))).2.1 (a1.2.2.2.2.2.2.1.getD v6.toNat (([] : (List TTerm)), (([] : (List TTerm)), (([] : (List TTerm)), ())))).2.1) ((let y12 : Bool := spec_SameCombo_f (a0.2.2.2.2.2.2.1.getD v6.toNat (([] : (List TTerm)), (([] : (List TTerm)), (([] : (List TTerm)), ())))).2.1 (a1.2.2.2.2.2.2.1.getD v6.toNat (([] : (List TTerm)), (([] : (List TTerm)), (([] : (List TTerm)), ())))).2.1; bif (!y12) then (ret false) else (chk (decide (0 ≤ v6) && decide (v6 < (a0.2.2.2.2.2.2.1.length : Int))) (chk (decide (0 ≤ v6) && decide (v6 < (a1.2.2.2.2.2.2.1.length : Int))) (chk (spec_SameCombo_pre (a0.2.2.2.2.2.2.1.getD v6.toNat (([] : (List TTerm)), (([] : (List TTerm)), (([] : (List TTerm)), ())))).2.2.1 (a1.2.2.2.2.2.2.1.getD v6.toNat (([] : (List TTerm)), (([] : (List TTerm)), (([] : (List TTerm)), ())))).2.2.1) ((let y13 : Bool := spec_SameCombo_f (a0.2.2.2.2.2.2.1.getD v6.toNat (([] : (List TTerm)), (([] : (List TTerm)), (([] : (List TTerm)), ())))).2.2.1 (a1.2.2.2.2.2.2.1.getD v6.toNat (([] : (List TTerm)), (([] : (List TTerm)), (([] : (List TTerm)), ())))).2.2.1; bif (!y13) then (ret false) else (rec2 (IntKind.wrap .i64 (v6 + (1 : Int))))))))))))))))))) else (ret true)
def spec_SameSystem_l2 {A : Type} (ret : Bool → Option A) (k : Nat) (a0 : TSystem) (a1 : TSystem) : Nat → Int → Option A
  | 0 => fun _ => none
  | n + 1 => fun v6 => spec_SameSystem_t2 ret (spec_SameSystem_l2 ret k a0 a1 n) a0 a1 v6
def spec_SameSystem_t1 {A : Type} (ret : Bool → Option A) (run2 : TSystem → TSystem → Int → Option A) (rec1 : Int → Option A) (a0 : TSystem) (a1 : TSystem) (v1 : Int) : Option A :=
  bif (decide (v1 < (a0.2.2.2.2.2.1.length : Int))) then (chk (decide (0 ≤ v1) && decide (v1 < (a0.2.2.2.2.2.1.length : Int))) (chk (decide (0 ≤ v1) && decide (v1 < (a1.2.2.2.2.2.1.length : Int))) (bif ((a0.2.2.2.2.2.1.getD v1.toNat (0 : Int)) != (a1.2.2.2.2.2.1.getD v1.toNat (0 : Int))) then (ret false) else (rec1 (IntKind.wrap .i64 (v1 + (1 : Int))))))) else (run2 a0 a1 (0 : Int))
def spec_SameSystem_l1 {A : Type} (ret : Bool → Option A) (k : Nat) (a0 : TSystem) (a1 : TSystem) : Nat → Int → Option A
  | 0 => fun _ => none
  | n + 1 => fun v1 => spec_SameSystem_t1 ret (fun a0_ a1_ v6_ => spec_SameSystem_l2 ret k a0_ a1_ k v6_) (spec_SameSystem_l1 ret k a0 a1 n) a0 a1 v1
def spec_SameSystem_t0 {A : Type} (ret : Bool → Option A) (run1 : TSystem → TSystem → Int → Option A) (a0 : TSystem) (a1 : TSystem) : Option A :=
  bif (a0.1 != a1.1) then (ret false) else (bif (a0.2.1 != a1.2.1) then (ret false) else (bif (a0.2.2.1 != a1.2.2.1) then (ret false) else (bif (a0.2.2.2.1 != a1.2.2.2.1) then (ret false) else (bif (a0.2.2.2.2.1 != a1.2.2.2.2.1) then (ret false) else (bif ((a0.2.2.2.2.2.1.length : Int) != (a1.2.2.2.2.2.1.length : Int)) then (ret false) else (bif ((a0.2.2.2.2.2.2.1.length : Int) != (a1.2.2.2.2.2.2.1.length : Int)) then (ret false) else (run1 a0 a1 (0 : Int))))))))
def spec_SameSystem_s {A : Type} (ret : Bool → Option A) (k : Nat) (a0 : TSystem) (a1 : TSystem) : Option A := spec_SameSystem_t0 ret (fun a0_ a1_ v1_ => spec_SameSystem_l1 ret k a0_ a1_ k v1_) a0 a1
def spec_SameWitness_t1 {A : Type} (ret : Bool → Option A) (rec1 : Int → Option A) (a : TWitness) (b : TWitness) (v1 : Int) : Option A :=
  bif (decide (v1 < (a.2.1.length : Int))) then (chk (decide (0 ≤ v1) && decide (v1 < (a.2.1.length : Int))) (chk (decide (0 ≤ v1) && decide (v1 < (b.2.1.length : Int))) (bif (!((a.2.1.getD v1.toNat ([] : Str)) == (b.2.1.getD v1.toNat ([] : Str)))) then (ret false) else (rec1 (IntKind.wrap .i64 (v1 + (1 : Int))))))) else (ret true)
def spec_SameWitness_l1 {A : Type} (ret : Bool → Option A) (k : Nat) (a : TWitness) (b : TWitness) : Nat → Int → Option A
  | 0 => fun _ => none
  | n + 1 => fun v1 => spec_SameWitness_t1 ret (spec_SameWitness_l1 ret k a b n) a b v1
def spec_SameWitness_t0 {A : Type} (ret : Bool → Option A) (run1 : TWitness → TWitness → Int → Option A) (a : TWitness) (b : TWitness) : Option A :=
  bif (a.1 != b.1) then (ret false) else (bif ((a.2.1.length : Int) != (b.2.1.length : Int)) then (ret false) else (run1 a b (0 : Int)))
def spec_SameWitness_s {A : Type} (ret : Bool → Option A) (k : Nat) (a : TWitness) (b : TWitness) : Option A := spec_SameWitness_t0 ret (fun a_ b_ v1_ => spec_SameWitness_l1 ret k a_ b_ k v1_) a b
def spec_SameKey_t1 {A : Type} (ret : Bool → Option A) (rec1 : Int → Option A) (a0 : TKey) (a1 : TKey) (v1 : Int) : Option A :=
  bif (decide (v1 < (a0.2.2.2.2.2.1.length : Int))) then (chk (decide (0 ≤ v1) && decide (v1 < (a0.2.2.2.2.2.1.length : Int))) (chk (decide (0 ≤ v1) && decide (v1 < (a1.2.2.2.2.2.1.length : Int))) (bif (!(eqD (.pair .bool (.pair .str (.pair .str .unit))) (a0.2.2.2.2.2.1.getD v1.toNat (false, (([] : Str), (([] : Str), ())))) (a1.2.2.2.2.2.1.getD v1.toNat (false, (([] : Str), (([] : Str), ())))))) then (ret false) else (rec1 (IntKind.wrap .i64 (v1 + (1 : Int))))))) else (ret true)
def spec_SameKey_l1 {A : Type} (ret : Bool → Option A) (k : Nat) (a0 : TKey) (a1 : TKey) : Nat → Int → Option A
  | 0 => fun _ => none
  | n + 1 => fun v1 => spec_SameKey_t1 ret (spec_SameKey_l1 ret k a0 a1 n) a0 a1 v1
def spec_SameKey_t0 {A : Type} (ret : Bool → Option A) (run1 : TKey → TKey → Int → Option A) (a0 : TKey) (a1 : TKey) : Option A :=
  bif (a0.1 != a1.1) then (ret false) else (bif (!(eqD (.pair .bool (.pair .str (.pair .str .unit))) a0.2.1 a1.2.1)) then (ret false) else (bif (!(eqD (.pair .bool (.pair (.pair .str (.pair .str .unit)) (.pair (.pair .str (.pair .str .unit)) .unit))) a0.2.2.1 a1.2.2.1)) then (ret false) else (bif (!(eqD (.pair .bool (.pair (.pair .str (.pair .str .unit)) (.pair (.pair .str (.pair .str .unit)) .unit))) a0.2.2.2.1 a1.2.2.2.1)) then (ret false) else (bif (!(eqD (.pair .bool (.pair (.pair .str (.pair .str .unit)) (.pair (.pair .str (.pair .str .unit)) .unit))) a0.2.2.2.2.1 a1.2.2.2.2.1)) then (ret false) else (bif ((a0.2.2.2.2.2.1.length : Int) != (a1.2.2.2.2.2.1.length : Int)) then (ret false) else (run1 a0 a1 (0 : Int)))))))
def spec_SameKey_s {A : Type} (ret : Bool → Option A) (k : Nat) (a0 : TKey) (a1 : TKey) : Option A := spec_SameKey_t0 ret (fun a0_ a1_ v1_ => spec_SameKey_l1 ret k a0_ a1_ k v1_) a0 a1
def spec_SameArtefact_s {A : Type} (ret : Bool → Option A) (a : TArtefact) (b : TArtefact) : Option A :=
  bif (a.1 == b.1) then (bif (a.2.1 == b.2.1) then (bif (eqD (.pair .bool (.pair .str (.pair .str .unit))) a.2.2.1 b.2.2.1) then (bif (eqD (.pair .bool (.pair (.pair .str (.pair .str .unit)) (.pair (.pair .str (.pair .str .unit)) .unit))) a.2.2.2.1 b.2.2.2.1) then (chk (spec_SameSystem_pre a.2.2.2.2.1 b.2.2.2.2.1) (bif (spec_SameSystem_f a.2.2.2.2.1 b.2.2.2.2.1) then (chk (spec_SameWitness_pre a.2.2.2.2.2.1 b.2.2.2.2.2.1) (bif (spec_SameWitness_f a.2.2.2.2.2.1 b.2.2.2.2.2.1) then (chk (spec_SameKey_pre a.2.2.2.2.2.2.1 b.2.2.2.2.2.2.1) (bif (spec_SameKey_f a.2.2.2.2.2.2.1 b.2.2.2.2.2.2.1) then (ret (eqD (.pair (.int .i64) (.pair (.pair .bool (.pair .str (.pair .str .unit))) (.pair (.pair .bool (.pair (.pair .str (.pair .str .unit)) (.pair (.pair .str (.pair .str .unit)) .unit))) (.pair (.pair .bool (.pair .str (.pair .str .unit))) .unit)))) a.2.2.2.2.2.2.2.1 b.2.2.2.2.2.2.2.1)) else (ret false))) else (ret false))) else (ret false))) else (ret false)) else (ret false)) else (ret false)) else (ret false)
def Equal_Ints_t1 {A : Type} (ret : Bool → Option A) (rec1 : Int → Option A) (s1 : (List Int)) (s2 : (List Int)) (v1 : Int) : Option A :=
  bif (decide (v1 < (s1.length : Int))) then (chk (decide (0 ≤ v1) && decide (v1 < (s1.length : Int))) (chk (decide (0 ≤ v1) && decide (v1 < (s2.length : Int))) (bif ((s1.getD v1.toNat (0 : Int)) != (s2.getD v1.toNat (0 : Int))) then (ret false) else (rec1 (IntKind.wrap .i64 (v1 + (1 : Int))))))) else (ret true)
def Equal_Ints_l1 {A : Type} (ret : Bool → Option A) (k : Nat) (s1 : (List Int)) (s2 : (List Int)) : Nat → Int → Option A
  | 0 => fun _ => none
  | n + 1 => fun v1 => Equal_Ints_t1 ret (Equal_Ints_l1 ret k s1 s2 n) s1 s2 v1
def Equal_Ints_t0 {A : Type} (ret : Bool → Option A) (run1 : (List Int) → (List Int) → Int → Option A) (s1 : (List Int)) (s2 : (List Int)) : Option A :=
  bif ((s1.length : Int) != (s2.length : Int)) then (ret false) else (run1 s1 s2 (0 : Int))
def Equal_Ints_s {A : Type} (ret : Bool → Option A) (k : Nat) (s1 : (List Int)) (s2 : (List Int)) : Option A := Equal_Ints_t0 ret (fun s1_ s2_ v1_ => Equal_Ints_l1 ret k s1_ s2_ k v1_) s1 s2
def impl_Row_combos_s {A : Type} (ret : (List (List TTerm)) → Option A) (r : TRow) : Option A :=
  ret ([r.1, r.2.1, r.2.2.1] : (List (List TTerm)))
def Equal_Terms_t1 {A : Type} (ret : Bool → Option A) (rec1 : Int → Option A) (s1 : (List TTerm)) (s2 : (List TTerm)) (v1 : Int) : Option A :=
  bif (decide (v1 < (s1.length : Int))) then (chk (decide (0 ≤ v1) && decide (v1 < (s1.length : Int))) (chk (decide (0 ≤ v1) && decide (v1 < (s2.length : Int))) (bif (!(eqD (.pair (.int .i64) (.pair .str .unit)) (s1.getD v1.toNat ((0 : Int), (([] : Str), ()))) (s2.getD v1.toNat ((0 : Int), (([] : Str), ()))))) then (ret false) else (rec1 (IntKind.wrap .i64 (v1 + (1 : Int))))))) else (ret true)
def Equal_Terms_l1 {A : Type} (ret : Bool → Option A) (k : Nat) (s1 : (List TTerm)) (s2 : (List TTerm)) : Nat → Int → Option A
  | 0 => fun _ => none
  | n + 1 => fun v1 => Equal_Terms_t1 ret (Equal_Terms_l1 ret k s1 s2 n) s1 s2 v1
def Equal_Terms_t0 {A : Type} (ret : Bool → Option A) (run1 : (List TTerm) → (List TTerm) → Int → Option A) (s1 : (List TTerm)) (s2 : (List TTerm)) : Option A :=
  bif ((s1.length : Int) != (s2.length : Int)) then (ret false) else (run1 s1 s2 (0 : Int))
def Equal_Terms_s {A : Type} (ret : Bool → Option A) (k : Nat) (s1 : (List TTerm)) (s2 : (List TTerm)) : Option A := Equal_Terms_t0 ret (fun s1_ s2_ v1_ => Equal_Terms_l1 ret k s1_ s2_ k v1_) s1 s2
def impl_SameCombo_s {A : Type} (ret : Bool → Option A) (a : (List TTerm)) (b : (List TTerm)) : Option A :=
  chk (Equal_Terms_pre a b) (ret (Equal_Terms_f a b))
def EqualFunc_Terms_t1 {A : Type} (ret : Bool → Option A) (rec1 : Int → Option A) (s1 : (List (List TTerm))) (s2 : (List (List TTerm))) (v2 : Int) : Option A :=
  bif (decide (v2 < (s1.length : Int))) then (chk (decide (0 ≤ v2) && decide (v2 < (s1.length : Int))) (chk (decide (0 ≤ v2) && decide (v2 < (s2.length : Int))) (chk (impl_SameCombo_pre (s1.getD v2.toNat ([] : (List TTerm))) (s2.getD v2.toNat ([] : (List TTerm)))) ((let y5 : Bool := impl_SameCombo_f (s1.getD v2.toNat ([] : (List TTerm))) (s2.getD v2.toNat ([] : (List TTerm))); bif (!y5) then (ret false) else (rec1 (IntKind.wrap .i64 (v2 + (1 : Int))))))))) else (ret true)
def EqualFunc_Terms_l1 {A : Type} (ret : Bool → Option A) (k : Nat) (s1 : (List (List TTerm))) (s2 : (List (List TTerm))) : Nat → Int → Option A
  | 0 => fun _ => none
  | n + 1 => fun v2 => EqualFunc_Terms_t1 ret (EqualFunc_Terms_l1 ret k s1 s2 n) s1 s2 v2
def EqualFunc_Terms_t0 {A : Type} (ret : Bool → Option A) (run1 : (List (List TTerm)) → (List (List TTerm)) → Int → Option A) (s1 : (List (List TTerm))) (s2 : (List (List TTerm))) : Option A :=
  bif ((s1.length : Int) != (s2.length : Int)) then (ret false) else (run1 s1 s2 (0 : Int))
def EqualFunc_Terms_s {A : Type} (ret : Bool → Option A) (k : Nat) (s1 : (List (List TTerm))) (s2 : (List (List TTerm))) : Option A := EqualFunc_Terms_t0 ret (fun s1_ s2_ v2_ => EqualFunc_Terms_l1 ret k s1_ s2_ k v2_) s1 s2
def impl_SameSystem_1_s {A : Type} (ret : Bool → Option A) (x : TRow) (y : TRow) : Option A :=
  (let y1 : (List (List TTerm)) := impl_Row_combos_f x; (let y2 : (List (List TTerm)) := impl_Row_combos_f y; chk (EqualFunc_Terms_pre y1 y2) (ret (EqualFunc_Terms_f y1 y2))))
def EqualFunc_Rows_t1 {A : Type} (ret : Bool → Option A) (rec1 : Int → Option A) (s1 : (List TRow)) (s2 : (List TRow)) (v2 : Int) : Option A :=
  bif (decide (v2 < (s1.length : Int))) then (chk (decide (0 ≤ v2) && decide (v2 < (s1.length : Int))) (chk (decide (0 ≤ v2) && decide (v2 < (s2.length : Int))) (chk (impl_SameSystem_1_pre (s1.getD v2.toNat (([] : (List TTerm)), (([] : (List TTerm)), (([] : (List TTerm)), ())))) (s2.getD v2.toNat (([] : (List TTerm)), (([] : (List TTerm)), (([] : (List TTerm)), ()))))) ((let y5 : Bool := impl_SameSystem_1_f (s1.getD v2.toNat (([] : (List TTerm)), (([] : (List TTerm)), (([] : (List TTerm)), ())))) (s2.getD v2.toNat (([] : (List TTerm)), (([] : (List TTerm)), (([] : (List TTerm)), ())))); bif (!y5) then (ret false) else (rec1 (IntKind.wrap .i64 (v2 + (1 : Int))))))))) else (ret true)
def EqualFunc_Rows_l1 {A : Type} (ret : Bool → Option A) (k : Nat) (s1 : (List TRow)) (s2 : (List TRow)) : Nat → Int → Option A
  | 0 => fun _ => none
  | n + 1 => fun v2 => EqualFunc_Rows_t1 ret (EqualFunc_Rows_l1 ret k s1 s2 n) s1 s2 v2
def EqualFunc_Rows_t0 {A : Type} (ret : Bool → Option A) (run1 : (List TRow) → (List TRow) → Int → Option A) (s1 : (List TRow)) (s2 : (List TRow)) : Option A :=
  bif ((s1.length : Int) != (s2.length : Int)) then (ret false) else (run1 s1 s2 (0 : Int))
def EqualFunc_Rows_s {A : Type} (ret : Bool → Option A) (k : Nat) (s1 : (List TRow)) (s2 : (List TRow)) : Option A := EqualFunc_Rows_t0 ret (fun s1_ s2_ v2_ => EqualFunc_Rows_l1 ret k s1_ s2_ k v2_) s1 s2
def impl_SameSystem_s {A : Type} (ret : Bool → Option A) (a : TSystem) (b : TSystem) : Option A :=
  bif (a.1 == b.1) then (bif (a.2.1 == b.2.1) then (bif (a.2.2.1 == b.2.2.1) then (bif (a.2.2.2.1 == b.2.2.2.1) then (bif (a.2.2.2.2.1 == b.2.2.2.2.1) then (chk (Equal_Ints_pre a.2.2.2.2.2.1 b.2.2.2.2.2.1) (bif (Equal_Ints_f a.2.2.2.2.2.1 b.2.2.2.2.2.1) then (chk (EqualFunc_Rows_pre a.2.2.2.2.2.2.1 b.2.2.2.2.2.2.1) (ret (EqualFunc_Rows_f a.2.2.2.2.2.2.1 b.2.2.2.2.2.2.1))) else (ret false))) else (ret false)) else (ret false)) else (ret false)) else (ret false)) else (ret false)
def Equal_Strs_t1 {A : Type} (ret : Bool → Option A) (rec1 : Int → Option A) (s1 : (List Str)) (s2 : (List Str)) (v1 : Int) : Option A :=
  bif (decide (v1 < (s1.length : Int))) then (chk (decide (0 ≤ v1) && decide (v1 < (s1.length : Int))) (chk (decide (0 ≤ v1) && decide (v1 < (s2.length : Int))) (bif (!((s1.getD v1.toNat ([] : Str)) == (s2.getD v1.toNat ([] : Str)))) then (ret false) else (rec1 (IntKind.wrap .i64 (v1 + (1 : Int))))))) else (ret true)
def Equal_Strs_l1 {A : Type} (ret : Bool → Option A) (k : Nat) (s1 : (List Str)) (s2 : (List Str)) : Nat → Int → Option A
  | 0 => fun _ => none
  | n + 1 => fun v1 => Equal_Strs_t1 ret (Equal_Strs_l1 ret k s1 s2 n) s1 s2 v1
def Equal_Strs_t0 {A : Type} (ret : Bool → Option A) (run1 : (List Str) → (List Str) → Int → Option A) (s1 : (List Str)) (s2 : (List Str)) : Option A :=
  bif ((s1.length : Int) != (s2.length : Int)) then (ret false) else (run1 s1 s2 (0 : Int))
def Equal_Strs_s {A : Type} (ret : Bool → Option A) (k : Nat) (s1 : (List Str)) (s2 : (List Str)) : Option A := Equal_Strs_t0 ret (fun s1_ s2_ v1_ => Equal_Strs_l1 ret k s1_ s2_ k v1_) s1 s2
def impl_SameWitness_s {A : Type} (ret : Bool → Option A) (a : TWitness) (b : TWitness) : Option A :=
  bif (a.1 == b.1) then (chk (Equal_Strs_pre a.2.1 b.2.1) (ret (Equal_Strs_f a.2.1 b.2.1))) else (ret false)
def Equal_Points_t1 {A : Type} (ret : Bool → Option A) (rec1 : Int → Option A) (s1 : (List TPoint)) (s2 : (List TPoint)) (v1 : Int) : Option A :=
  bif (decide (v1 < (s1.length : Int))) then (chk (decide (0 ≤ v1) && decide (v1 < (s1.length : Int))) (chk (decide (0 ≤ v1) && decide (v1 < (s2.length : Int))) (bif (!(eqD (.pair .bool (.pair .str (.pair .str .unit))) (s1.getD v1.toNat (false, (([] : Str), (([] : Str), ())))) (s2.getD v1.toNat (false, (([] : Str), (([] : Str), ())))))) then (ret false) else (rec1 (IntKind.wrap .i64 (v1 + (1 : Int))))))) else (ret true)
def Equal_Points_l1 {A : Type} (ret : Bool → Option A) (k : Nat) (s1 : (List TPoint)) (s2 : (List TPoint)) : Nat → Int → Option A
  | 0 => fun _ => none
  | n + 1 => fun v1 => Equal_Points_t1 ret (Equal_Points_l1 ret k s1 s2 n) s1 s2 v1
def Equal_Points_t0 {A : Type} (ret : Bool → Option A) (run1 : (List TPoint) → (List TPoint) → Int → Option A) (s1 : (List TPoint)) (s2 : (List TPoint)) : Option A :=
  bif ((s1.length : Int) != (s2.length : Int)) then (ret false) else (run1 s1 s2 (0 : Int))
def Equal_Points_s {A : Type} (ret : Bool → Option A) (k : Nat) (s1 : (List TPoint)) (s2 : (List TPoint)) : Option A := Equal_Points_t0 ret (fun s1_ s2_ v1_ => Equal_Points_l1 ret k s1_ s2_ k v1_) s1 s2
def impl_SameKey_s {A : Type} (ret : Bool → Option A) (a : TKey) (b : TKey) : Option A :=
  bif (a.1 == b.1) then (bif (eqD (.pair .bool (.pair .str (.pair .str .unit))) a.2.1 b.2.1) then (bif (eqD (.pair .bool (.pair (.pair .str (.pair .str .unit)) (.pair (.pair .str (.pair .str .unit)) .unit))) a.2.2.1 b.2.2.1) then (bif (eqD (.pair .bool (.pair (.pair .str (.pair .str .unit)) (.pair (.pair .str (.pair .str .unit)) .unit))) a.2.2.2.1 b.2.2.2.1) then (bif (eqD (.pair .bool (.pair (.pair .str (.pair .str .unit)) (.pair (.pair .str (.pair .str .unit)) .unit))) a.2.2.2.2.1 b.2.2.2.2.1) then (chk (Equal_Points_pre a.2.2.2.2.2.1 b.2.2.2.2.2.1) (ret (Equal_Points_f a.2.2.2.2.2.1 b.2.2.2.2.2.1))) else (ret false)) else (ret false)) else (ret false)) else (ret false)) else (ret false)
def impl_SameArtefact_s {A : Type} (ret : Bool → Option A) (a : TArtefact) (b : TArtefact) : Option A :=
  bif (a.1 == b.1) then (bif (a.2.1 == b.2.1) then (bif (eqD (.pair .bool (.pair .str (.pair .str .unit))) a.2.2.1 b.2.2.1) then (bif (eqD (.pair .bool (.pair (.pair .str (.pair .str .unit)) (.pair (.pair .str (.pair .str .unit)) .unit))) a.2.2.2.1 b.2.2.2.1) then (chk (impl_SameSystem_pre a.2.2.2.2.1 b.2.2.2.2.1) (bif (impl_SameSystem_f a.2.2.2.2.1 b.2.2.2.2.1) then (chk (impl_SameWitness_pre a.2.2.2.2.2.1 b.2.2.2.2.2.1) (bif (impl_SameWitness_f a.2.2.2.2.2.1 b.2.2.2.2.2.1) then (chk (impl_SameKey_pre a.2.2.2.2.2.2.1 b.2.2.2.2.2.2.1) (bif (impl_SameKey_f a.2.2.2.2.2.2.1 b.2.2.2.2.2.2.1) then (ret (eqD (.pair (.int .i64) (.pair (.pair .bool (.pair .str (.pair .str .unit))) (.pair (.pair .bool (.pair (.pair .str (.pair .str .unit)) (.pair (.pair .str (.pair .str .unit)) .unit))) (.pair (.pair .bool (.pair .str (.pair .str .unit))) .unit)))) a.2.2.2.2.2.2.2.1 b.2.2.2.2.2.2.2.1)) else (ret false))) else (ret false))) else (ret false))) else (ret false)) else (ret false)) else (ret false)) else (ret false)
def laws_FnExactSameArtefact_s {A : Type} (ret : Bool → Option A) (aA : TArtefact) (aB : TArtefact) : Option A :=
  chk (laws_szArtefact_pre aA (1048576 : Int)) (bif (decide ((laws_szArtefact_f aA (1048576 : Int)) < (0 : Int))) then (ret true) else (chk (laws_szArtefact_pre aB (laws_szArtefact_f aA (1048576 : Int))) (bif (decide ((laws_szArtefact_f aB (laws_szArtefact_f aA (1048576 : Int))) < (0 : Int))) then (ret true) else (chk (laws_toArtefact_pre aA) ((let y1 : TArtefact := laws_toArtefact_f aA; chk (laws_toArtefact_pre aB) ((let y2 : TArtefact := laws_toArtefact_f aB; chk (spec_SameArtefact_pre y1 y2) (chk (laws_toArtefact_pre aA) ((let y3 : TArtefact := laws_toArtefact_f aA; chk (laws_toArtefact_pre aB) ((let y4 : TArtefact := laws_toArtefact_f aB; chk (impl_SameArtefact_pre y3 y4) (bif (!((impl_SameArtefact_f y3 y4) == (spec_SameArtefact_f y1 y2))) then (ret false) else (chk (laws_toArtefact_pre aA) ((let y5 : TArtefact := laws_toArtefact_f aA; chk (laws_eqArtefact_pre y3 y5) (bif (!(laws_eqArtefact_f y3 y5)) then (ret false) else (chk (laws_toArtefact_pre aB) ((let y6 : TArtefact := laws_toArtefact_f aB; chk (laws_eqArtefact_pre y4 y6) (bif (!(laws_eqArtefact_f y4 y6)) then (ret false) else (ret true)))))))))))))))))))))))
theorem laws_toIntS_law {A : Type} (ret : _ → Option A) (x) (h : laws_toIntS_pre x = true) : laws_toIntS_s ret (laws_toIntS_k x) x = ret (laws_toIntS_f x) := by
  simp only [laws_toIntS_pre, decide_eq_true_eq] at h
  have hx := len_le_w x
  unfold laws_toIntS_s laws_toIntS_t0 laws_toIntS_f
  rw [chk_pos (mk_ok (by omega) (by omega)), Int.toNat_natCast]
  refine (map_loop0 (ret := ret) (L := laws_toIntS_l1 ret (laws_toIntS_k x) x) (a := x) (fun z => z) _ (fun n i ys hi hy => ?_) (fun n ys => ?_) (by unfold laws_toIntS_k; omega)).trans (congrArg ret (List.map_id' x))
  · show laws_toIntS_t1 _ _ _ _ _ = _
    unfold laws_toIntS_t1
    rw [bif_pos (by omega), chk_pos (inb_pos hi), getD_at hi]
    simp only [Int.toNat_natCast]
    rw [chk_pos (inb_pos (by omega)), w64_id (by omega) (by omega)]
    rfl
  · show laws_toIntS_t1 _ _ _ _ _ = _
    unfold laws_toIntS_t1
    rw [bif_neg (by omega)]
theorem laws_eqStringS_law {A : Type} (ret : Bool → Option A) (x y) (h : laws_eqStringS_pre x y = true) : laws_eqStringS_s ret (laws_eqStringS_k x y) x y = ret (laws_eqStringS_f x y) := by
  simp only [laws_eqStringS_pre, decide_eq_true_eq] at h
  have hx := len_le_w x
  unfold laws_eqStringS_s laws_eqStringS_t0 laws_eqStringS_f
  by_cases hl : x.length = y.length
  · rw [show ((x.length : Int) != (y.length : Int)) = false by simp [hl], cond_false]
    refine eq_loop0 (L := laws_eqStringS_l1 ret (laws_eqStringS_k x y) x y) hl (fun n i hi => ?_) (fun n => ?_) (by unfold laws_eqStringS_k; omega)
    · have hy : i < y.length := by omega
      show laws_eqStringS_t1 _ _ _ _ _ = _
      unfold laws_eqStringS_t1
      rw [bif_pos (by omega), chk_pos (inb_pos hi), chk_pos (inb_pos hy), getD_at hi, getD_at hy]
      rw [w64_id (by omega) (by omega)]
      grind
    · show laws_eqStringS_t1 _ _ _ _ _ = _
      unfold laws_eqStringS_t1
      rw [bif_neg (by omega)]
  · rw [show ((x.length : Int) != (y.length : Int)) = true by simp; omega, cond_true]
    congr 1
    simp only [Bool.false_eq, decide_eq_false_iff_not]
    exact fun e => hl (by rw [e])
theorem laws_eqIntS_law {A : Type} (ret : Bool → Option A) (x y) (h : laws_eqIntS_pre x y = true) : laws_eqIntS_s ret (laws_eqIntS_k x y) x y = ret (laws_eqIntS_f x y) := by
  simp only [laws_eqIntS_pre, decide_eq_true_eq] at h
  have hx := len_le_w x
  unfold laws_eqIntS_s laws_eqIntS_t0 laws_eqIntS_f
  by_cases hl : x.length = y.length
  · rw [show ((x.length : Int) != (y.length : Int)) = false by simp [hl], cond_false]
    refine eq_loop0 (L := laws_eqIntS_l1 ret (laws_eqIntS_k x y) x y) hl (fun n i hi => ?_) (fun n => ?_) (by unfold laws_eqIntS_k; omega)
    · have hy : i < y.length := by omega
      show laws_eqIntS_t1 _ _ _ _ _ = _
      unfold laws_eqIntS_t1
      rw [bif_pos (by omega), chk_pos (inb_pos hi), chk_pos (inb_pos hy), getD_at hi, getD_at hy]
      rw [w64_id (by omega) (by omega)]
      grind
    · show laws_eqIntS_t1 _ _ _ _ _ = _
      unfold laws_eqIntS_t1
      rw [bif_neg (by omega)]
  · rw [show ((x.length : Int) != (y.length : Int)) = true by simp; omega, cond_true]
    congr 1
    simp only [Bool.false_eq, decide_eq_false_iff_not]
    exact fun e => hl (by rw [e])
theorem laws_szStringS_law {A : Type} (ret : Int → Option A) (x l) (h : laws_szStringS_pre x l = true) : laws_szStringS_s ret (laws_szStringS_k x l) x l = ret (laws_szStringS_f x l) := by
  simp only [laws_szStringS_pre, Bool.and_eq_true, szR_iff, fit_sl, decide_eq_true_eq, List.all_eq_true] at h
  obtain ⟨⟨hx, he⟩, hl0, hl1⟩ := h
  unfold laws_szStringS_s laws_szStringS_t0 laws_szStringS_f
  rw [w64_id (by omega) (by omega)]
  refine sz_loop0 (L := laws_szStringS_l1 ret (laws_szStringS_k x l) x) (fun n i v hi hv => ?_) (fun n v => ?_) hl0 hl1 (by unfold laws_szStringS_k; omega)
  · rw [szR_iff] at hv
    have hm := he x[i] (List.getElem_mem _)
    show laws_szStringS_t1 _ _ _ _ _ = _
    unfold laws_szStringS_t1
    rw [bif_pos (by omega), chk_pos (inb_pos hi), getD_at hi]
    rw [fit_str, decide_eq_true_eq] at hm
    rw [w64_id (n := v - _) (by omega) (by omega), w64_id (n := (i : Int) + 1) (by omega) (by omega), w_str]
    simp only [bif_ite]
    grind
  · show laws_szStringS_t1 _ _ _ _ _ = _
    unfold laws_szStringS_t1
    rw [bif_neg (by omega)]
theorem laws_toStringS_law {A : Type} (ret : _ → Option A) (x) (h : laws_toStringS_pre x = true) : laws_toStringS_s ret (laws_toStringS_k x) x = ret (laws_toStringS_f x) := by
  simp only [laws_toStringS_pre, decide_eq_true_eq] at h
  have hx := len_le_w x
  unfold laws_toStringS_s laws_toStringS_t0 laws_toStringS_f
  rw [chk_pos (mk_ok (by omega) (by omega)), Int.toNat_natCast]
  refine (map_loop0 (ret := ret) (L := laws_toStringS_l1 ret (laws_toStringS_k x) x) (a := x) (fun z => z) _ (fun n i ys hi hy => ?_) (fun n ys => ?_) (by unfold laws_toStringS_k; omega)).trans (congrArg ret (List.map_id' x))
  · show laws_toStringS_t1 _ _ _ _ _ = _
    unfold laws_toStringS_t1
    rw [bif_pos (by omega), chk_pos (inb_pos hi), getD_at hi]
    simp only [Int.toNat_natCast]
    rw [chk_pos (inb_pos (by omega)), w64_id (by omega) (by omega)]
    rfl
  · show laws_toStringS_t1 _ _ _ _ _ = _
    unfold laws_toStringS_t1
    rw [bif_neg (by omega)]
theorem laws_szPoint_law {A : Type} (ret : Int → Option A) (x l) (h : laws_szPoint_pre x l = true) : laws_szPoint_s ret x l = ret (laws_szPoint_f x l) := by
  obtain ⟨x1, x2, x3, ⟨⟩⟩ := x
  simp only [laws_szPoint_pre, Bool.and_eq_true, szR_iff] at h
  obtain ⟨h, hl⟩ := h
  obtain ⟨f1, h⟩ := fitp h; obtain ⟨f2, h⟩ := fitp h; obtain ⟨f3, h⟩ := fitp h
  simp only [fit_str, decide_eq_true_eq] at f1 f2 f3
  unfold laws_szPoint_s laws_szPoint_f
  simp only [chk_ite, bif_ite, Bool.and_eq_true, szR_iff, szF, w_pair, w_int, w_bool, w_unit, w_str]
  grind [w64_id]
theorem laws_szPair_law {A : Type} (ret : Int → Option A) (x l) (h : laws_szPair_pre x l = true) : laws_szPair_s ret x l = ret (laws_szPair_f x l) := by
  obtain ⟨x1, x2, ⟨⟩⟩ := x
  simp only [laws_szPair_pre, Bool.and_eq_true, szR_iff] at h
  obtain ⟨h, hl⟩ := h
  obtain ⟨f1, h⟩ := fitp h; obtain ⟨f2, h⟩ := fitp h
  simp only [fit_str, decide_eq_true_eq] at f1 f2
  unfold laws_szPair_s laws_szPair_f
  simp only [chk_ite, bif_ite, Bool.and_eq_true, szR_iff, szF, w_pair, w_int, w_bool, w_unit, w_str]
  grind [w64_id]
theorem laws_szPairPoint_law {A : Type} (ret : Int → Option A) (x l) (h : laws_szPairPoint_pre x l = true) : laws_szPairPoint_s ret x l = ret (laws_szPairPoint_f x l) := by
  obtain ⟨x1, x2, x3, ⟨⟩⟩ := x
  simp only [laws_szPairPoint_pre, Bool.and_eq_true, szR_iff] at h
  obtain ⟨h, hl⟩ := h
  obtain ⟨f1, h⟩ := fitp h; obtain ⟨f2, h⟩ := fitp h; obtain ⟨f3, h⟩ := fitp h
  unfold laws_szPairPoint_s laws_szPairPoint_f
  simp only [laws_szPair_f, laws_szPair_pre, chk_ite, bif_ite, Bool.and_eq_true, szR_iff, szF, w_pair, w_int, w_bool, w_unit, w_str]
  grind
theorem laws_szIntS_law {A : Type} (ret : Int → Option A) (x l) (h : laws_szIntS_pre x l = true) : laws_szIntS_s ret x l = ret (laws_szIntS_f x l) := by
  simp only [laws_szIntS_pre, Bool.and_eq_true, szR_iff, fit_sl, decide_eq_true_eq, List.all_eq_true] at h
  obtain ⟨⟨hx, he⟩, hl0, hl1⟩ := h
  unfold laws_szIntS_s laws_szIntS_f szF
  rw [w64_id (by omega) (by omega), w_ints]
  simp only [bif_ite]
  grind
theorem laws_szTerm_law {A : Type} (ret : Int → Option A) (x l) (h : laws_szTerm_pre x l = true) : laws_szTerm_s ret x l = ret (laws_szTerm_f x l) := by
  obtain ⟨x1, x2, ⟨⟩⟩ := x
  simp only [laws_szTerm_pre, Bool.and_eq_true, szR_iff] at h
  obtain ⟨h, hl⟩ := h
  obtain ⟨f1, h⟩ := fitp h; obtain ⟨f2, h⟩ := fitp h
  simp only [fit_str, decide_eq_true_eq] at f1 f2
  unfold laws_szTerm_s laws_szTerm_f
  simp only [chk_ite, bif_ite, Bool.and_eq_true, szR_iff, szF, w_pair, w_int, w_bool, w_unit, w_str]
  grind [w64_id]
theorem laws_szTermS_law {A : Type} (ret : Int → Option A) (x l) (h : laws_szTermS_pre x l = true) : laws_szTermS_s ret (laws_szTermS_k x l) x l = ret (laws_szTermS_f x l) := by
  simp only [laws_szTermS_pre, Bool.and_eq_true, szR_iff, fit_sl, decide_eq_true_eq, List.all_eq_true] at h
  obtain ⟨⟨hx, he⟩, hl0, hl1⟩ := h
  unfold laws_szTermS_s laws_szTermS_t0 laws_szTermS_f
  rw [w64_id (by omega) (by omega)]
  refine sz_loop0 (L := laws_szTermS_l1 ret (laws_szTermS_k x l) x) (fun n i v hi hv => ?_) (fun n v => ?_) hl0 hl1 (by unfold laws_szTermS_k; omega)
  · rw [szR_iff] at hv
    have hm := he x[i] (List.getElem_mem _)
    show laws_szTermS_t1 _ _ _ _ _ = _
    unfold laws_szTermS_t1
    rw [bif_pos (by omega), chk_pos (inb_pos hi), getD_at hi]
    have hp : laws_szTerm_pre x[i] v = true := by simp only [laws_szTerm_pre, Bool.and_eq_true]; exact ⟨hm, szR_iff.2 hv⟩
    simp only [hp, chk_tt, laws_szTerm_f, bif_ite]
    rw [w64_id (by omega) (by omega)]
    unfold szF
    grind
  · show laws_szTermS_t1 _ _ _ _ _ = _
    unfold laws_szTermS_t1
    rw [bif_neg (by omega)]
theorem laws_szRow_law {A : Type} (ret : Int → Option A) (x l) (h : laws_szRow_pre x l = true) : laws_szRow_s ret x l = ret (laws_szRow_f x l) := by
  obtain ⟨x1, x2, x3, ⟨⟩⟩ := x
  simp only [laws_szRow_pre, Bool.and_eq_true, szR_iff] at h
  obtain ⟨h, hl⟩ := h
  obtain ⟨f1, h⟩ := fitp h; obtain ⟨f2, h⟩ := fitp h; obtain ⟨f3, h⟩ := fitp h
  unfold laws_szRow_s laws_szRow_f
  simp only [laws_szTermS_f, laws_szTermS_pre, chk_ite, bif_ite, Bool.and_eq_true, szR_iff, szF, w_pair, w_int, w_bool, w_unit, w_str]
  grind
theorem laws_szRowS_law {A : Type} (ret : Int → Option A) (x l) (h : laws_szRowS_pre x l = true) : laws_szRowS_s ret (laws_szRowS_k x l) x l = ret (laws_szRowS_f x l) := by
  simp only [laws_szRowS_pre, Bool.and_eq_true, szR_iff, fit_sl, decide_eq_true_eq, List.all_eq_true] at h
  obtain ⟨⟨hx, he⟩, hl0, hl1⟩ := h
  unfold laws_szRowS_s laws_szRowS_t0 laws_szRowS_f
  rw [w64_id (by omega) (by omega)]
  refine sz_loop0 (L := laws_szRowS_l1 ret (laws_szRowS_k x l) x) (fun n i v hi hv => ?_) (fun n v => ?_) hl0 hl1 (by unfold laws_szRowS_k; omega)
  · rw [szR_iff] at hv
    have hm := he x[i] (List.getElem_mem _)
    show laws_szRowS_t1 _ _ _ _ _ = _
    unfold laws_szRowS_t1
    rw [bif_pos (by omega), chk_pos (inb_pos hi), getD_at hi]
    have hp : laws_szRow_pre x[i] v = true := by simp only [laws_szRow_pre, Bool.and_eq_true]; exact ⟨hm, szR_iff.2 hv⟩
    simp only [hp, chk_tt, laws_szRow_f, bif_ite]
    rw [w64_id (by omega) (by omega)]
    unfold szF
    grind
  · show laws_szRowS_t1 _ _ _ _ _ = _
    unfold laws_szRowS_t1
    rw [bif_neg (by omega)]
theorem laws_szSystem_law {A : Type} (ret : Int → Option A) (x l) (h : laws_szSystem_pre x l = true) : laws_szSystem_s ret x l = ret (laws_szSystem_f x l) := by
  obtain ⟨x1, x2, x3, x4, x5, x6, x7, ⟨⟩⟩ := x
  simp only [laws_szSystem_pre, Bool.and_eq_true, szR_iff] at h
  obtain ⟨h, hl⟩ := h
  obtain ⟨f1, h⟩ := fitp h; obtain ⟨f2, h⟩ := fitp h; obtain ⟨f3, h⟩ := fitp h; obtain ⟨f4, h⟩ := fitp h; obtain ⟨f5, h⟩ := fitp h; obtain ⟨f6, h⟩ := fitp h; obtain ⟨f7, h⟩ := fitp h
  unfold laws_szSystem_s laws_szSystem_f
  simp only [laws_szIntS_f, laws_szIntS_pre, laws_szRowS_f, laws_szRowS_pre, chk_ite, bif_ite, Bool.and_eq_true, szR_iff, szF, w_pair, w_int, w_bool, w_unit, w_str]
  grind
theorem laws_szWitness_law {A : Type} (ret : Int → Option A) (x l) (h : laws_szWitness_pre x l = true) : laws_szWitness_s ret x l = ret (laws_szWitness_f x l) := by
  obtain ⟨x1, x2, ⟨⟩⟩ := x
  simp only [laws_szWitness_pre, Bool.and_eq_true, szR_iff] at h
  obtain ⟨h, hl⟩ := h
  obtain ⟨f1, h⟩ := fitp h; obtain ⟨f2, h⟩ := fitp h
  unfold laws_szWitness_s laws_szWitness_f
  simp only [laws_szStringS_f, laws_szStringS_pre, chk_ite, bif_ite, Bool.and_eq_true, szR_iff, szF, w_pair, w_int, w_bool, w_unit, w_str]
  grind
theorem laws_szPointS_law {A : Type} (ret : Int → Option A) (x l) (h : laws_szPointS_pre x l = true) : laws_szPointS_s ret (laws_szPointS_k x l) x l = ret (laws_szPointS_f x l) := by
  simp only [laws_szPointS_pre, Bool.and_eq_true, szR_iff, fit_sl, decide_eq_true_eq, List.all_eq_true] at h
  obtain ⟨⟨hx, he⟩, hl0, hl1⟩ := h
  unfold laws_szPointS_s laws_szPointS_t0 laws_szPointS_f
  rw [w64_id (by omega) (by omega)]
  refine sz_loop0 (L := laws_szPointS_l1 ret (laws_szPointS_k x l) x) (fun n i v hi hv => ?_) (fun n v => ?_) hl0 hl1 (by unfold laws_szPointS_k; omega)
  · rw [szR_iff] at hv
    have hm := he x[i] (List.getElem_mem _)
    show laws_szPointS_t1 _ _ _ _ _ = _
    unfold laws_szPointS_t1
    rw [bif_pos (by omega), chk_pos (inb_pos hi), getD_at hi]
    have hp : laws_szPoint_pre x[i] v = true := by simp only [laws_szPoint_pre, Bool.and_eq_true]; exact ⟨hm, szR_iff.2 hv⟩
    simp only [hp, chk_tt, laws_szPoint_f, bif_ite]
    rw [w64_id (by omega) (by omega)]
    unfold szF
    grind
  · show laws_szPointS_t1 _ _ _ _ _ = _
    unfold laws_szPointS_t1
    rw [bif_neg (by omega)]
theorem laws_szKey_law {A : Type} (ret : Int → Option A) (x l) (h : laws_szKey_pre x l = true) : laws_szKey_s ret x l = ret (laws_szKey_f x l) := by
  obtain ⟨x1, x2, x3, x4, x5, x6, ⟨⟩⟩ := x
  simp only [laws_szKey_pre, Bool.and_eq_true, szR_iff] at h
  obtain ⟨h, hl⟩ := h
  obtain ⟨f1, h⟩ := fitp h; obtain ⟨f2, h⟩ := fitp h; obtain ⟨f3, h⟩ := fitp h; obtain ⟨f4, h⟩ := fitp h; obtain ⟨f5, h⟩ := fitp h; obtain ⟨f6, h⟩ := fitp h
  unfold laws_szKey_s laws_szKey_f
  simp only [laws_szPoint_f, laws_szPoint_pre, laws_szPairPoint_f, laws_szPairPoint_pre, laws_szPointS_f, laws_szPointS_pre, chk_ite, bif_ite, Bool.and_eq_true, szR_iff, szF, w_pair, w_int, w_bool, w_unit, w_str]
  grind
theorem laws_szProof_law {A : Type} (ret : Int → Option A) (x l) (h : laws_szProof_pre x l = true) : laws_szProof_s ret x l = ret (laws_szProof_f x l) := by
  obtain ⟨x1, x2, x3, x4, ⟨⟩⟩ := x
  simp only [laws_szProof_pre, Bool.and_eq_true, szR_iff] at h
  obtain ⟨h, hl⟩ := h
  obtain ⟨f1, h⟩ := fitp h; obtain ⟨f2, h⟩ := fitp h; obtain ⟨f3, h⟩ := fitp h; obtain ⟨f4, h⟩ := fitp h
  unfold laws_szProof_s laws_szProof_f
  simp only [laws_szPoint_f, laws_szPoint_pre, laws_szPairPoint_f, laws_szPairPoint_pre, chk_ite, bif_ite, Bool.and_eq_true, szR_iff, szF, w_pair, w_int, w_bool, w_unit, w_str]
  grind
theorem laws_szArtefact_law {A : Type} (ret : Int → Option A) (x l) (h : laws_szArtefact_pre x l = true) : laws_szArtefact_s ret x l = ret (laws_szArtefact_f x l) := by
  obtain ⟨x1, x2, x3, x4, x5, x6, x7, x8, ⟨⟩⟩ := x
  simp only [laws_szArtefact_pre, Bool.and_eq_true, szR_iff] at h
  obtain ⟨h, hl⟩ := h
  obtain ⟨f1, h⟩ := fitp h; obtain ⟨f2, h⟩ := fitp h; obtain ⟨f3, h⟩ := fitp h; obtain ⟨f4, h⟩ := fitp h; obtain ⟨f5, h⟩ := fitp h; obtain ⟨f6, h⟩ := fitp h; obtain ⟨f7, h⟩ := fitp h; obtain ⟨f8, h⟩ := fitp h
  unfold laws_szArtefact_s laws_szArtefact_f
  simp only [laws_szPoint_f, laws_szPoint_pre, laws_szPairPoint_f, laws_szPairPoint_pre, laws_szSystem_f, laws_szSystem_pre, laws_szWitness_f, laws_szWitness_pre, laws_szKey_f, laws_szKey_pre, laws_szProof_f, laws_szProof_pre, chk_ite, bif_ite, Bool.and_eq_true, szR_iff, szF, w_pair, w_int, w_bool, w_unit, w_str]
  grind
theorem laws_toPoint_law {A : Type} (ret : _ → Option A) (x) : laws_toPoint_s ret x = ret (laws_toPoint_f x) := by
  obtain ⟨x1, x2, x3, ⟨⟩⟩ := x
  unfold laws_toPoint_s laws_toPoint_f
  try rfl
theorem laws_toPair_law {A : Type} (ret : _ → Option A) (x) : laws_toPair_s ret x = ret (laws_toPair_f x) := by
  obtain ⟨x1, x2, ⟨⟩⟩ := x
  unfold laws_toPair_s laws_toPair_f
  try rfl
theorem laws_toPairPoint_law {A : Type} (ret : _ → Option A) (x) : laws_toPairPoint_s ret x = ret (laws_toPairPoint_f x) := by
  obtain ⟨x1, x2, x3, ⟨⟩⟩ := x
  unfold laws_toPairPoint_s laws_toPairPoint_f
  simp only [laws_toPair_f]
  try rfl
theorem laws_toTerm_law {A : Type} (ret : _ → Option A) (x) : laws_toTerm_s ret x = ret (laws_toTerm_f x) := by
  obtain ⟨x1, x2, ⟨⟩⟩ := x
  unfold laws_toTerm_s laws_toTerm_f
  try rfl
theorem laws_toTermS_law {A : Type} (ret : _ → Option A) (x) (h : laws_toTermS_pre x = true) : laws_toTermS_s ret (laws_toTermS_k x) x = ret (laws_toTermS_f x) := by
  simp only [laws_toTermS_pre, decide_eq_true_eq] at h
  have hx := len_le_w x
  unfold laws_toTermS_s laws_toTermS_t0 laws_toTermS_f
  rw [chk_pos (mk_ok (by omega) (by omega)), Int.toNat_natCast]
  refine (map_loop0 (ret := ret) (L := laws_toTermS_l1 ret (laws_toTermS_k x) x) (a := x) (fun z => z) _ (fun n i ys hi hy => ?_) (fun n ys => ?_) (by unfold laws_toTermS_k; omega)).trans (congrArg ret (List.map_id' x))
  · show laws_toTermS_t1 _ _ _ _ _ = _
    unfold laws_toTermS_t1
    rw [bif_pos (by omega), chk_pos (inb_pos hi), getD_at hi]
    simp only [laws_toTerm_f, Int.toNat_natCast]
    rw [chk_pos (inb_pos (by omega)), w64_id (by omega) (by omega)]
    rfl
  · show laws_toTermS_t1 _ _ _ _ _ = _
    unfold laws_toTermS_t1
    rw [bif_neg (by omega)]
theorem laws_toRow_law {A : Type} (ret : _ → Option A) (x) (h : laws_toRow_pre x = true) : laws_toRow_s ret x = ret (laws_toRow_f x) := by
  obtain ⟨x1, x2, x3, ⟨⟩⟩ := x
  unfold laws_toRow_s laws_toRow_f
  simp only [laws_toRow_pre, w_pair, decide_eq_true_eq] at h
  have hw : ∀ n : Nat, n ≤ 1048576 → decide (n ≤ 1048576) = true := fun n h => decide_eq_true h
  simp only [laws_toTermS_f, laws_toTermS_pre]
  repeat rw [chk_pos (decide_eq_true (by omega))]
  try rfl
theorem laws_toRowS_law {A : Type} (ret : _ → Option A) (x) (h : laws_toRowS_pre x = true) : laws_toRowS_s ret (laws_toRowS_k x) x = ret (laws_toRowS_f x) := by
  simp only [laws_toRowS_pre, decide_eq_true_eq] at h
  have hx := len_le_w x
  unfold laws_toRowS_s laws_toRowS_t0 laws_toRowS_f
  rw [chk_pos (mk_ok (by omega) (by omega)), Int.toNat_natCast]
  refine (map_loop0 (ret := ret) (L := laws_toRowS_l1 ret (laws_toRowS_k x) x) (a := x) (fun z => z) _ (fun n i ys hi hy => ?_) (fun n ys => ?_) (by unfold laws_toRowS_k; omega)).trans (congrArg ret (List.map_id' x))
  · show laws_toRowS_t1 _ _ _ _ _ = _
    unfold laws_toRowS_t1
    rw [bif_pos (by omega), chk_pos (inb_pos hi), getD_at hi]
    have hp : laws_toRow_pre x[i] = true := by
      have := mem_le_w (List.getElem_mem hi)
      simp only [laws_toRow_pre, decide_eq_true_eq]; omega
    rw [chk_pos hp]
    simp only [laws_toRow_f, Int.toNat_natCast]
    rw [chk_pos (inb_pos (by omega)), w64_id (by omega) (by omega)]
    rfl
  · show laws_toRowS_t1 _ _ _ _ _ = _
    unfold laws_toRowS_t1
    rw [bif_neg (by omega)]
theorem laws_toSystem_law {A : Type} (ret : _ → Option A) (x) (h : laws_toSystem_pre x = true) : laws_toSystem_s ret x = ret (laws_toSystem_f x) := by
  obtain ⟨x1, x2, x3, x4, x5, x6, x7, ⟨⟩⟩ := x
  unfold laws_toSystem_s laws_toSystem_f
  simp only [laws_toSystem_pre, w_pair, decide_eq_true_eq] at h
  have hw : ∀ n : Nat, n ≤ 1048576 → decide (n ≤ 1048576) = true := fun n h => decide_eq_true h
  simp only [laws_toIntS_f, laws_toIntS_pre, laws_toRowS_f, laws_toRowS_pre]
  repeat rw [chk_pos (decide_eq_true (by omega))]
  try rfl
theorem laws_toWitness_law {A : Type} (ret : _ → Option A) (x) (h : laws_toWitness_pre x = true) : laws_toWitness_s ret x = ret (laws_toWitness_f x) := by
  obtain ⟨x1, x2, ⟨⟩⟩ := x
  unfold laws_toWitness_s laws_toWitness_f
  simp only [laws_toWitness_pre, w_pair, decide_eq_true_eq] at h
  have hw : ∀ n : Nat, n ≤ 1048576 → decide (n ≤ 1048576) = true := fun n h => decide_eq_true h
  simp only [laws_toStringS_f, laws_toStringS_pre]
  repeat rw [chk_pos (decide_eq_true (by omega))]
  try rfl
theorem laws_toPointS_law {A : Type} (ret : _ → Option A) (x) (h : laws_toPointS_pre x = true) : laws_toPointS_s ret (laws_toPointS_k x) x = ret (laws_toPointS_f x) := by
  simp only [laws_toPointS_pre, decide_eq_true_eq] at h
  have hx := len_le_w x
  unfold laws_toPointS_s laws_toPointS_t0 laws_toPointS_f
  rw [chk_pos (mk_ok (by omega) (by omega)), Int.toNat_natCast]
  refine (map_loop0 (ret := ret) (L := laws_toPointS_l1 ret (laws_toPointS_k x) x) (a := x) (fun z => z) _ (fun n i ys hi hy => ?_) (fun n ys => ?_) (by unfold laws_toPointS_k; omega)).trans (congrArg ret (List.map_id' x))
  · show laws_toPointS_t1 _ _ _ _ _ = _
    unfold laws_toPointS_t1
    rw [bif_pos (by omega), chk_pos (inb_pos hi), getD_at hi]
    simp only [laws_toPoint_f, Int.toNat_natCast]
    rw [chk_pos (inb_pos (by omega)), w64_id (by omega) (by omega)]
    rfl
  · show laws_toPointS_t1 _ _ _ _ _ = _
    unfold laws_toPointS_t1
    rw [bif_neg (by omega)]
theorem laws_toKey_law {A : Type} (ret : _ → Option A) (x) (h : laws_toKey_pre x = true) : laws_toKey_s ret x = ret (laws_toKey_f x) := by
  obtain ⟨x1, x2, x3, x4, x5, x6, ⟨⟩⟩ := x
  unfold laws_toKey_s laws_toKey_f
  simp only [laws_toKey_pre, w_pair, decide_eq_true_eq] at h
  have hw : ∀ n : Nat, n ≤ 1048576 → decide (n ≤ 1048576) = true := fun n h => decide_eq_true h
  simp only [laws_toPoint_f, laws_toPairPoint_f, laws_toPointS_f, laws_toPointS_pre]
  repeat rw [chk_pos (decide_eq_true (by omega))]
  try rfl
theorem laws_toProof_law {A : Type} (ret : _ → Option A) (x) : laws_toProof_s ret x = ret (laws_toProof_f x) := by
  obtain ⟨x1, x2, x3, x4, ⟨⟩⟩ := x
  unfold laws_toProof_s laws_toProof_f
  simp only [laws_toPoint_f, laws_toPairPoint_f]
  try rfl
theorem laws_toArtefact_law {A : Type} (ret : _ → Option A) (x) (h : laws_toArtefact_pre x = true) : laws_toArtefact_s ret x = ret (laws_toArtefact_f x) := by
  obtain ⟨x1, x2, x3, x4, x5, x6, x7, x8, ⟨⟩⟩ := x
  unfold laws_toArtefact_s laws_toArtefact_f
  simp only [laws_toArtefact_pre, w_pair, decide_eq_true_eq] at h
  have hw : ∀ n : Nat, n ≤ 1048576 → decide (n ≤ 1048576) = true := fun n h => decide_eq_true h
  simp only [laws_toPoint_f, laws_toPairPoint_f, laws_toSystem_f, laws_toSystem_pre, laws_toWitness_f, laws_toWitness_pre, laws_toKey_f, laws_toKey_pre, laws_toProof_f]
  repeat rw [chk_pos (decide_eq_true (by omega))]
  try rfl
theorem laws_eqPoint_law {A : Type} (ret : Bool → Option A) (x y) : laws_eqPoint_s ret x y = ret (laws_eqPoint_f x y) := by
  obtain ⟨x1, x2, x3, ⟨⟩⟩ := x
  obtain ⟨y1, y2, y3, ⟨⟩⟩ := y
  unfold laws_eqPoint_s laws_eqPoint_f
  simp only [Prod.mk.injEq]
  grind
theorem laws_eqPair_law {A : Type} (ret : Bool → Option A) (x y) : laws_eqPair_s ret x y = ret (laws_eqPair_f x y) := by
  obtain ⟨x1, x2, ⟨⟩⟩ := x
  obtain ⟨y1, y2, ⟨⟩⟩ := y
  unfold laws_eqPair_s laws_eqPair_f
  simp only [Prod.mk.injEq]
  grind
theorem laws_eqPairPoint_law {A : Type} (ret : Bool → Option A) (x y) : laws_eqPairPoint_s ret x y = ret (laws_eqPairPoint_f x y) := by
  obtain ⟨x1, x2, x3, ⟨⟩⟩ := x
  obtain ⟨y1, y2, y3, ⟨⟩⟩ := y
  unfold laws_eqPairPoint_s laws_eqPairPoint_f
  simp only [laws_eqPair_f]
  simp only [Prod.mk.injEq]
  grind
theorem laws_eqTerm_law {A : Type} (ret : Bool → Option A) (x y) : laws_eqTerm_s ret x y = ret (laws_eqTerm_f x y) := by
  obtain ⟨x1, x2, ⟨⟩⟩ := x
  obtain ⟨y1, y2, ⟨⟩⟩ := y
  unfold laws_eqTerm_s laws_eqTerm_f
  simp only [Prod.mk.injEq]
  grind
theorem laws_eqTermS_law {A : Type} (ret : Bool → Option A) (x y) (h : laws_eqTermS_pre x y = true) : laws_eqTermS_s ret (laws_eqTermS_k x y) x y = ret (laws_eqTermS_f x y) := by
  simp only [laws_eqTermS_pre, decide_eq_true_eq] at h
  have hx := len_le_w x
  unfold laws_eqTermS_s laws_eqTermS_t0 laws_eqTermS_f
  by_cases hl : x.length = y.length
  · rw [show ((x.length : Int) != (y.length : Int)) = false by simp [hl], cond_false]
    refine eq_loop0 (L := laws_eqTermS_l1 ret (laws_eqTermS_k x y) x y) hl (fun n i hi => ?_) (fun n => ?_) (by unfold laws_eqTermS_k; omega)
    · have hy : i < y.length := by omega
      show laws_eqTermS_t1 _ _ _ _ _ = _
      unfold laws_eqTermS_t1
      rw [bif_pos (by omega), chk_pos (inb_pos hi), chk_pos (inb_pos hy), getD_at hi, getD_at hy]
      rw [w64_id (by omega) (by omega)]
      simp only [laws_eqTerm_f]
      grind
    · show laws_eqTermS_t1 _ _ _ _ _ = _
      unfold laws_eqTermS_t1
      rw [bif_neg (by omega)]
  · rw [show ((x.length : Int) != (y.length : Int)) = true by simp; omega, cond_true]
    congr 1
    simp only [Bool.false_eq, decide_eq_false_iff_not]
    exact fun e => hl (by rw [e])
theorem laws_eqRow_law {A : Type} (ret : Bool → Option A) (x y) (h : laws_eqRow_pre x y = true) : laws_eqRow_s ret x y = ret (laws_eqRow_f x y) := by
  obtain ⟨x1, x2, x3, ⟨⟩⟩ := x
  obtain ⟨y1, y2, y3, ⟨⟩⟩ := y
  unfold laws_eqRow_s laws_eqRow_f
  simp only [laws_eqRow_pre, w_pair, decide_eq_true_eq] at h
  simp only [laws_eqTermS_f, laws_eqTermS_pre]
  repeat rw [chk_pos (decide_eq_true (by omega))]
  simp only [Prod.mk.injEq]
  grind
theorem laws_eqRowS_law {A : Type} (ret : Bool → Option A) (x y) (h : laws_eqRowS_pre x y = true) : laws_eqRowS_s ret (laws_eqRowS_k x y) x y = ret (laws_eqRowS_f x y) := by
  simp only [laws_eqRowS_pre, decide_eq_true_eq] at h
  have hx := len_le_w x
  unfold laws_eqRowS_s laws_eqRowS_t0 laws_eqRowS_f
  by_cases hl : x.length = y.length
  · rw [show ((x.length : Int) != (y.length : Int)) = false by simp [hl], cond_false]
    refine eq_loop0 (L := laws_eqRowS_l1 ret (laws_eqRowS_k x y) x y) hl (fun n i hi => ?_) (fun n => ?_) (by unfold laws_eqRowS_k; omega)
    · have hy : i < y.length := by omega
      show laws_eqRowS_t1 _ _ _ _ _ = _
      unfold laws_eqRowS_t1
      rw [bif_pos (by omega), chk_pos (inb_pos hi), chk_pos (inb_pos hy), getD_at hi, getD_at hy]
      have hp : laws_eqRow_pre x[i] y[i] = true := by
        have := mem_le_w (List.getElem_mem hi)
        simp only [laws_eqRow_pre, decide_eq_true_eq]; omega
      rw [chk_pos hp]
      rw [w64_id (by omega) (by omega)]
      simp only [laws_eqRow_f]
      grind
    · show laws_eqRowS_t1 _ _ _ _ _ = _
      unfold laws_eqRowS_t1
      rw [bif_neg (by omega)]
  · rw [show ((x.length : Int) != (y.length : Int)) = true by simp; omega, cond_true]
    congr 1
    simp only [Bool.false_eq, decide_eq_false_iff_not]
    exact fun e => hl (by rw [e])
theorem laws_eqSystem_law {A : Type} (ret : Bool → Option A) (x y) (h : laws_eqSystem_pre x y = true) : laws_eqSystem_s ret x y = ret (laws_eqSystem_f x y) := by
  obtain ⟨x1, x2, x3, x4, x5, x6, x7, ⟨⟩⟩ := x
  obtain ⟨y1, y2, y3, y4, y5, y6, y7, ⟨⟩⟩ := y
  unfold laws_eqSystem_s laws_eqSystem_f
  simp only [laws_eqSystem_pre, w_pair, decide_eq_true_eq] at h
  simp only [laws_eqIntS_f, laws_eqIntS_pre, laws_eqRowS_f, laws_eqRowS_pre]
  repeat rw [chk_pos (decide_eq_true (by omega))]
  simp only [Prod.mk.injEq]
  grind
theorem laws_eqWitness_law {A : Type} (ret : Bool → Option A) (x y) (h : laws_eqWitness_pre x y = true) : laws_eqWitness_s ret x y = ret (laws_eqWitness_f x y) := by
  obtain ⟨x1, x2, ⟨⟩⟩ := x
  obtain ⟨y1, y2, ⟨⟩⟩ := y
  unfold laws_eqWitness_s laws_eqWitness_f
  simp only [laws_eqWitness_pre, w_pair, decide_eq_true_eq] at h
  simp only [laws_eqStringS_f, laws_eqStringS_pre]
  repeat rw [chk_pos (decide_eq_true (by omega))]
  simp only [Prod.mk.injEq]
  grind
theorem laws_eqPointS_law {A : Type} (ret : Bool → Option A) (x y) (h : laws_eqPointS_pre x y = true) : laws_eqPointS_s ret (laws_eqPointS_k x y) x y = ret (laws_eqPointS_f x y) := by
  simp only [laws_eqPointS_pre, decide_eq_true_eq] at h
  have hx := len_le_w x
  unfold laws_eqPointS_s laws_eqPointS_t0 laws_eqPointS_f
  by_cases hl : x.length = y.length
  · rw [show ((x.length : Int) != (y.length : Int)) = false by simp [hl], cond_false]
    refine eq_loop0 (L := laws_eqPointS_l1 ret (laws_eqPointS_k x y) x y) hl (fun n i hi => ?_) (fun n => ?_) (by unfold laws_eqPointS_k; omega)
    · have hy : i < y.length := by omega
      show laws_eqPointS_t1 _ _ _ _ _ = _
      unfold laws_eqPointS_t1
      rw [bif_pos (by omega), chk_pos (inb_pos hi), chk_pos (inb_pos hy), getD_at hi, getD_at hy]
      rw [w64_id (by omega) (by omega)]
      simp only [laws_eqPoint_f]
      grind
    · show laws_eqPointS_t1 _ _ _ _ _ = _
      unfold laws_eqPointS_t1
      rw [bif_neg (by omega)]
  · rw [show ((x.length : Int) != (y.length : Int)) = true by simp; omega, cond_true]
    congr 1
    simp only [Bool.false_eq, decide_eq_false_iff_not]
    exact fun e => hl (by rw [e])
theorem laws_eqKey_law {A : Type} (ret : Bool → Option A) (x y) (h : laws_eqKey_pre x y = true) : laws_eqKey_s ret x y = ret (laws_eqKey_f x y) := by
  obtain ⟨x1, x2, x3, x4, x5, x6, ⟨⟩⟩ := x
  obtain ⟨y1, y2, y3, y4, y5, y6, ⟨⟩⟩ := y
  unfold laws_eqKey_s laws_eqKey_f
  simp only [laws_eqKey_pre, w_pair, decide_eq_true_eq] at h
  simp only [laws_eqPoint_f, laws_eqPairPoint_f, laws_eqPointS_f, laws_eqPointS_pre]
  repeat rw [chk_pos (decide_eq_true (by omega))]
  simp only [Prod.mk.injEq]
  grind
theorem laws_eqProof_law {A : Type} (ret : Bool → Option A) (x y) : laws_eqProof_s ret x y = ret (laws_eqProof_f x y) := by
  obtain ⟨x1, x2, x3, x4, ⟨⟩⟩ := x
  obtain ⟨y1, y2, y3, y4, ⟨⟩⟩ := y
  unfold laws_eqProof_s laws_eqProof_f
  simp only [laws_eqPoint_f, laws_eqPairPoint_f]
  simp only [Prod.mk.injEq]
  grind
theorem laws_eqArtefact_law {A : Type} (ret : Bool → Option A) (x y) (h : laws_eqArtefact_pre x y = true) : laws_eqArtefact_s ret x y = ret (laws_eqArtefact_f x y) := by
  obtain ⟨x1, x2, x3, x4, x5, x6, x7, x8, ⟨⟩⟩ := x
  obtain ⟨y1, y2, y3, y4, y5, y6, y7, y8, ⟨⟩⟩ := y
  unfold laws_eqArtefact_s laws_eqArtefact_f
  simp only [laws_eqArtefact_pre, w_pair, decide_eq_true_eq] at h
  simp only [laws_eqPoint_f, laws_eqPairPoint_f, laws_eqSystem_f, laws_eqSystem_pre, laws_eqWitness_f, laws_eqWitness_pre, laws_eqKey_f, laws_eqKey_pre, laws_eqProof_f]
  repeat rw [chk_pos (decide_eq_true (by omega))]
  simp only [Prod.mk.injEq]
  grind
theorem spec_SameCombo_law {A : Type} (ret : Bool → Option A) (x y) (h : spec_SameCombo_pre x y = true) : spec_SameCombo_s ret (spec_SameCombo_k x y) x y = ret (spec_SameCombo_f x y) := by
  simp only [spec_SameCombo_pre, decide_eq_true_eq] at h
  have hx := len_le_w x
  unfold spec_SameCombo_s spec_SameCombo_t0 spec_SameCombo_f
  by_cases hl : x.length = y.length
  · rw [show ((x.length : Int) != (y.length : Int)) = false by simp [hl], cond_false]
    refine eq_loop0 (L := spec_SameCombo_l1 ret (spec_SameCombo_k x y) x y) hl (fun n i hi => ?_) (fun n => ?_) (by unfold spec_SameCombo_k; omega)
    · have hy : i < y.length := by omega
      show spec_SameCombo_t1 _ _ _ _ _ = _
      unfold spec_SameCombo_t1
      rw [bif_pos (by omega), chk_pos (inb_pos hi), chk_pos (inb_pos hy), getD_at hi, getD_at hy, w64_id (by omega) (by omega), eqD_val rfl]
      grind
    · show spec_SameCombo_t1 _ _ _ _ _ = _
      unfold spec_SameCombo_t1
      rw [bif_neg (by omega)]
  · rw [show ((x.length : Int) != (y.length : Int)) = true by simp; omega, cond_true]
    congr 1
    simp only [Bool.false_eq, decide_eq_false_iff_not]
    exact fun e => hl (by rw [e])
theorem spec_SameSystem_law {A : Type} (ret : Bool → Option A) (x y) (h : spec_SameSystem_pre x y = true) : spec_SameSystem_s ret (spec_SameSystem_k x y) x y = ret (spec_SameSystem_f x y) := by
  obtain ⟨x1, x2, x3, x4, x5, x6, x7, ⟨⟩⟩ := x
  obtain ⟨y1, y2, y3, y4, y5, y6, y7, ⟨⟩⟩ := y
  simp only [spec_SameSystem_pre, w_pair, decide_eq_true_eq] at h
  have hx6 := len_le_w x6
  have hx7 := len_le_w x7
  unfold spec_SameSystem_s spec_SameSystem_t0 spec_SameSystem_f
  simp only
  by_cases hl6 : x6.length = y6.length
  · rw [show ((x6.length : Int) != (y6.length : Int)) = false by simp [hl6], cond_false]
    by_cases hl7 : x7.length = y7.length
    · rw [show ((x7.length : Int) != (y7.length : Int)) = false by simp [hl7], cond_false]
      generalize hX : (x1, x2, x3, x4, x5, x6, x7, ()) = X
      generalize hY : (y1, y2, y3, y4, y5, y6, y7, ()) = Y
      have e1 : X.2.2.2.2.2.1 = x6 := by rw [← hX]
      have e2 : Y.2.2.2.2.2.1 = y6 := by rw [← hY]
      have e3 : X.2.2.2.2.2.2.1 = x7 := by rw [← hX]
      have e4 : Y.2.2.2.2.2.2.1 = y7 := by rw [← hY]
      have hk6 : x6.length < spec_SameSystem_k X Y := by unfold spec_SameSystem_k; rw [← hX]; simp only [w_pair]; omega
      have hk7 : x7.length < spec_SameSystem_k X Y := by unfold spec_SameSystem_k; rw [← hX]; simp only [w_pair]; omega
      have key7 := eq_loop0 (ret := ret) (L := spec_SameSystem_l2 ret (spec_SameSystem_k X Y) X Y) hl7 (fun n i hi => by
        have hy : i < y7.length := by omega
        have hm := mem_le_w (List.getElem_mem hi)
        rw [w_pair', w_pair', w_pair'] at hm
        show spec_SameSystem_t2 _ _ _ _ _ = _
        unfold spec_SameSystem_t2
        rw [e3, e4, bif_pos (by omega)]
        rw [getD_at hi, getD_at hy, w64_id (by omega) (by omega)]
        have q1 : spec_SameCombo_pre x7[i].1 y7[i].1 = true := decide_eq_true (by omega)
        have q2 : spec_SameCombo_pre x7[i].2.1 y7[i].2.1 = true := decide_eq_true (by omega)
        have q3 : spec_SameCombo_pre x7[i].2.2.1 y7[i].2.2.1 = true := decide_eq_true (by omega)
        simp only [inb_pos hi, inb_pos hy, spec_SameCombo_f, q1, q2, q3, chk_tt]
        have hp : (x7[i] = y7[i]) ↔ (x7[i].1 = y7[i].1 ∧ x7[i].2.1 = y7[i].2.1 ∧ x7[i].2.2.1 = y7[i].2.2.1) :=
          ⟨fun e => by rw [e]; exact ⟨rfl, rfl, rfl⟩, fun ⟨a, b, c⟩ => Prod.ext a (Prod.ext b (Prod.ext c rfl))⟩
        grind) (fun n => by
        show spec_SameSystem_t2 _ _ _ _ _ = _
        unfold spec_SameSystem_t2
        rw [e3, bif_neg (by omega)]) hk7
      have key6 := eqL_loop0 (E := ret (decide (x7 = y7))) (R := ret false) (L := spec_SameSystem_l1 ret (spec_SameSystem_k X Y) X Y) hl6 (fun n i hi => by
        have hy : i < y6.length := by omega
        show spec_SameSystem_t1 ret _ _ _ _ _ = _
        unfold spec_SameSystem_t1
        rw [e1, e2, bif_pos (by omega), chk_pos (inb_pos hi), chk_pos (inb_pos hy), getD_at hi, getD_at hy, w64_id (by omega) (by omega)]
        grind) (fun n => by
        show spec_SameSystem_t1 ret _ _ _ _ _ = _
        unfold spec_SameSystem_t1
        rw [e1, bif_neg (by omega)]
        exact key7) hk6
      rw [show spec_SameSystem_l1 ret (spec_SameSystem_k X Y) X Y (spec_SameSystem_k X Y) 0 = _ from key6]
      subst hX hY
      simp only [Prod.mk.injEq]
      grind
    · have ne : x7 ≠ y7 := fun e => hl7 (by rw [e])
      rw [show ((x7.length : Int) != (y7.length : Int)) = true by simp; omega, cond_true]
      simp only [Prod.mk.injEq]
      grind
  · have ne : x6 ≠ y6 := fun e => hl6 (by rw [e])
    rw [show ((x6.length : Int) != (y6.length : Int)) = true by simp; omega, cond_true]
    simp only [Prod.mk.injEq]
    grind
theorem spec_SameWitness_law {A : Type} (ret : Bool → Option A) (x y) (h : spec_SameWitness_pre x y = true) : spec_SameWitness_s ret (spec_SameWitness_k x y) x y = ret (spec_SameWitness_f x y) := by
  obtain ⟨x1, x2, ⟨⟩⟩ := x
  obtain ⟨y1, y2, ⟨⟩⟩ := y
  simp only [spec_SameWitness_pre, w_pair, decide_eq_true_eq] at h
  have hx := len_le_w x2
  unfold spec_SameWitness_s spec_SameWitness_t0 spec_SameWitness_f
  simp only
  by_cases hl : x2.length = y2.length
  · rw [show ((x2.length : Int) != (y2.length : Int)) = false by simp [hl], cond_false]
    have key := eq_loop0 (ret := ret) (L := spec_SameWitness_l1 ret (spec_SameWitness_k (x1, x2, ()) (y1, y2, ())) (x1, x2, ()) (y1, y2, ())) hl (fun n i hi => by
      have hy : i < y2.length := by omega
      show spec_SameWitness_t1 _ _ _ _ _ = _
      unfold spec_SameWitness_t1
      simp only
      rw [bif_pos (by omega), chk_pos (inb_pos hi), chk_pos (inb_pos hy), getD_at hi, getD_at hy, w64_id (by omega) (by omega)]
      grind) (fun n => by
      show spec_SameWitness_t1 _ _ _ _ _ = _
      unfold spec_SameWitness_t1
      simp only
      rw [bif_neg (by omega)]) (n := spec_SameWitness_k (x1, x2, ()) (y1, y2, ())) (by unfold spec_SameWitness_k; rw [w_pair, w_pair]; omega)
    rw [show spec_SameWitness_l1 ret (spec_SameWitness_k (x1, x2, ()) (y1, y2, ())) (x1, x2, ()) (y1, y2, ()) (spec_SameWitness_k (x1, x2, ()) (y1, y2, ())) 0 = _ from key]
    simp only [Prod.mk.injEq]
    grind
  · have ne : x2 ≠ y2 := fun e => hl (by rw [e])
    rw [show ((x2.length : Int) != (y2.length : Int)) = true by simp; omega, cond_true]
    simp only [Prod.mk.injEq]
    grind
theorem spec_SameKey_law {A : Type} (ret : Bool → Option A) (x y) (h : spec_SameKey_pre x y = true) : spec_SameKey_s ret (spec_SameKey_k x y) x y = ret (spec_SameKey_f x y) := by
  obtain ⟨x1, x2, x3, x4, x5, x6, ⟨⟩⟩ := x
  obtain ⟨y1, y2, y3, y4, y5, y6, ⟨⟩⟩ := y
  simp only [spec_SameKey_pre, w_pair, decide_eq_true_eq] at h
  have hx := len_le_w x6
  unfold spec_SameKey_s spec_SameKey_t0 spec_SameKey_f
  simp only
  repeat rw [eqD_val rfl]
  by_cases hl : x6.length = y6.length
  · rw [show ((x6.length : Int) != (y6.length : Int)) = false by simp [hl], cond_false]
    generalize hX : (x1, x2, x3, x4, x5, x6, ()) = X
    generalize hY : (y1, y2, y3, y4, y5, y6, ()) = Y
    have e1 : X.2.2.2.2.2.1 = x6 := by rw [← hX]
    have e2 : Y.2.2.2.2.2.1 = y6 := by rw [← hY]
    have hk : x6.length < spec_SameKey_k X Y := by unfold spec_SameKey_k; rw [← hX]; simp only [w_pair]; omega
    have key := eq_loop0 (ret := ret) (L := spec_SameKey_l1 ret (spec_SameKey_k X Y) X Y) hl (fun n i hi => by
      have hy : i < y6.length := by omega
      show spec_SameKey_t1 _ _ _ _ _ = _
      unfold spec_SameKey_t1
      rw [e1, e2, bif_pos (by omega), chk_pos (inb_pos hi), chk_pos (inb_pos hy), getD_at hi, getD_at hy, w64_id (by omega) (by omega), eqD_val rfl]
      grind) (fun n => by
      show spec_SameKey_t1 _ _ _ _ _ = _
      unfold spec_SameKey_t1
      rw [e1, bif_neg (by omega)]) hk
    rw [show spec_SameKey_l1 ret (spec_SameKey_k X Y) X Y (spec_SameKey_k X Y) 0 = _ from key]
    subst hX hY
    simp only [Prod.mk.injEq]
    grind
  · have ne : x6 ≠ y6 := fun e => hl (by rw [e])
    rw [show ((x6.length : Int) != (y6.length : Int)) = true by simp; omega, cond_true]
    simp only [Prod.mk.injEq]
    grind
theorem spec_SameArtefact_law {A : Type} (ret : Bool → Option A) (x y) (h : spec_SameArtefact_pre x y = true) : spec_SameArtefact_s ret x y = ret (spec_SameArtefact_f x y) := by
  obtain ⟨x1, x2, x3, x4, x5, x6, x7, x8, ⟨⟩⟩ := x
  obtain ⟨y1, y2, y3, y4, y5, y6, y7, y8, ⟨⟩⟩ := y
  unfold spec_SameArtefact_s spec_SameArtefact_f
  simp only [spec_SameArtefact_pre, w_pair, decide_eq_true_eq] at h
  simp only [spec_SameSystem_f, spec_SameSystem_pre, spec_SameWitness_f, spec_SameWitness_pre, spec_SameKey_f, spec_SameKey_pre]
  repeat rw [chk_pos (decide_eq_true (by omega))]
  repeat rw [eqD_val rfl]
  simp only [Prod.mk.injEq]
  grind
theorem Equal_Ints_law {A : Type} (ret : Bool → Option A) (x y) (h : Equal_Ints_pre x y = true) : Equal_Ints_s ret (Equal_Ints_k x y) x y = ret (Equal_Ints_f x y) := by
  simp only [Equal_Ints_pre, decide_eq_true_eq] at h
  have hx := len_le_w x
  unfold Equal_Ints_s Equal_Ints_t0 Equal_Ints_f
  by_cases hl : x.length = y.length
  · rw [show ((x.length : Int) != (y.length : Int)) = false by simp [hl], cond_false]
    refine eq_loop0 (L := Equal_Ints_l1 ret (Equal_Ints_k x y) x y) hl (fun n i hi => ?_) (fun n => ?_) (by unfold Equal_Ints_k; omega)
    · have hy : i < y.length := by omega
      show Equal_Ints_t1 _ _ _ _ _ = _
      unfold Equal_Ints_t1
      rw [bif_pos (by omega), chk_pos (inb_pos hi), chk_pos (inb_pos hy), getD_at hi, getD_at hy]
      rw [w64_id (by omega) (by omega)]
      grind
    · show Equal_Ints_t1 _ _ _ _ _ = _
      unfold Equal_Ints_t1
      rw [bif_neg (by omega)]
  · rw [show ((x.length : Int) != (y.length : Int)) = true by simp; omega, cond_true]
    congr 1
    simp only [Bool.false_eq, decide_eq_false_iff_not]
    exact fun e => hl (by rw [e])
theorem impl_Row_combos_law {A : Type} (ret : List (List TTerm) → Option A) (r) : impl_Row_combos_s ret r = ret (impl_Row_combos_f r) := rfl
theorem Equal_Terms_law {A : Type} (ret : Bool → Option A) (x y) (h : Equal_Terms_pre x y = true) : Equal_Terms_s ret (Equal_Terms_k x y) x y = ret (Equal_Terms_f x y) := by
  simp only [Equal_Terms_pre, decide_eq_true_eq] at h
  have hx := len_le_w x
  unfold Equal_Terms_s Equal_Terms_t0 Equal_Terms_f
  by_cases hl : x.length = y.length
  · rw [show ((x.length : Int) != (y.length : Int)) = false by simp [hl], cond_false]
    refine eq_loop0 (L := Equal_Terms_l1 ret (Equal_Terms_k x y) x y) hl (fun n i hi => ?_) (fun n => ?_) (by unfold Equal_Terms_k; omega)
    · have hy : i < y.length := by omega
      show Equal_Terms_t1 _ _ _ _ _ = _
      unfold Equal_Terms_t1
      rw [bif_pos (by omega), chk_pos (inb_pos hi), chk_pos (inb_pos hy), getD_at hi, getD_at hy]
      rw [w64_id (by omega) (by omega)]
      rw [eqD_val rfl]
      grind
    · show Equal_Terms_t1 _ _ _ _ _ = _
      unfold Equal_Terms_t1
      rw [bif_neg (by omega)]
  · rw [show ((x.length : Int) != (y.length : Int)) = true by simp; omega, cond_true]
    congr 1
    simp only [Bool.false_eq, decide_eq_false_iff_not]
    exact fun e => hl (by rw [e])
theorem impl_SameCombo_law {A : Type} (ret : Bool → Option A) (x y) (h : impl_SameCombo_pre x y = true) : impl_SameCombo_s ret x y = ret (impl_SameCombo_f x y) := by
  have hp : Equal_Terms_pre x y = true := h
  unfold impl_SameCombo_s
  rw [chk_pos hp]
  rfl
theorem EqualFunc_Terms_law {A : Type} (ret : Bool → Option A) (x y) (h : EqualFunc_Terms_pre x y = true) : EqualFunc_Terms_s ret (EqualFunc_Terms_k x y) x y = ret (EqualFunc_Terms_f x y) := by
  simp only [EqualFunc_Terms_pre, decide_eq_true_eq] at h
  have hx := len_le_w x
  unfold EqualFunc_Terms_s EqualFunc_Terms_t0 EqualFunc_Terms_f
  by_cases hl : x.length = y.length
  · rw [show ((x.length : Int) != (y.length : Int)) = false by simp [hl], cond_false]
    refine eq_loop0 (L := EqualFunc_Terms_l1 ret (EqualFunc_Terms_k x y) x y) hl (fun n i hi => ?_) (fun n => ?_) (by unfold EqualFunc_Terms_k; omega)
    · have hy : i < y.length := by omega
      show EqualFunc_Terms_t1 _ _ _ _ _ = _
      unfold EqualFunc_Terms_t1
      rw [bif_pos (by omega), chk_pos (inb_pos hi), chk_pos (inb_pos hy), getD_at hi, getD_at hy]
      have hp : impl_SameCombo_pre x[i] y[i] = true := by
        have := mem_le_w (List.getElem_mem hi)
        simp only [impl_SameCombo_pre, decide_eq_true_eq]; omega
      rw [chk_pos hp]
      rw [w64_id (by omega) (by omega)]
      simp only [impl_SameCombo_f]
      grind
    · show EqualFunc_Terms_t1 _ _ _ _ _ = _
      unfold EqualFunc_Terms_t1
      rw [bif_neg (by omega)]
  · rw [show ((x.length : Int) != (y.length : Int)) = true by simp; omega, cond_true]
    congr 1
    simp only [Bool.false_eq, decide_eq_false_iff_not]
    exact fun e => hl (by rw [e])
theorem impl_SameSystem_1_law {A : Type} (ret : Bool → Option A) (x y) (h : impl_SameSystem_1_pre x y = true) : impl_SameSystem_1_s ret x y = ret (impl_SameSystem_1_f x y) := by
  obtain ⟨x1, x2, x3, ⟨⟩⟩ := x
  obtain ⟨y1, y2, y3, ⟨⟩⟩ := y
  simp only [impl_SameSystem_1_pre, w_pair, decide_eq_true_eq] at h
  have hp : EqualFunc_Terms_pre [x1, x2, x3] [y1, y2, y3] = true := by
    refine decide_eq_true ?_
    rw [w_list]
    simp only [List.map_cons, List.map_nil, List.sum_cons, List.sum_nil, List.length_cons, List.length_nil]
    have : w () = 0 := rfl
    omega
  unfold impl_SameSystem_1_s impl_SameSystem_1_f
  simp only [impl_Row_combos_f, hp, chk_tt, EqualFunc_Terms_f, Prod.mk.injEq, List.cons.injEq, and_true]
theorem EqualFunc_Rows_law {A : Type} (ret : Bool → Option A) (x y) (h : EqualFunc_Rows_pre x y = true) : EqualFunc_Rows_s ret (EqualFunc_Rows_k x y) x y = ret (EqualFunc_Rows_f x y) := by
  simp only [EqualFunc_Rows_pre, decide_eq_true_eq] at h
  have hx := len_le_w x
  unfold EqualFunc_Rows_s EqualFunc_Rows_t0 EqualFunc_Rows_f
  by_cases hl : x.length = y.length
  · rw [show ((x.length : Int) != (y.length : Int)) = false by simp [hl], cond_false]
    refine eq_loop0 (L := EqualFunc_Rows_l1 ret (EqualFunc_Rows_k x y) x y) hl (fun n i hi => ?_) (fun n => ?_) (by unfold EqualFunc_Rows_k; omega)
    · have hy : i < y.length := by omega
      show EqualFunc_Rows_t1 _ _ _ _ _ = _
      unfold EqualFunc_Rows_t1
      rw [bif_pos (by omega), chk_pos (inb_pos hi), chk_pos (inb_pos hy), getD_at hi, getD_at hy]
      have hp : impl_SameSystem_1_pre x[i] y[i] = true := by
        have := mem_le_w (List.getElem_mem hi)
        simp only [impl_SameSystem_1_pre, decide_eq_true_eq]; omega
      rw [chk_pos hp]
      rw [w64_id (by omega) (by omega)]
      simp only [impl_SameSystem_1_f]
      grind
    · show EqualFunc_Rows_t1 _ _ _ _ _ = _
      unfold EqualFunc_Rows_t1
      rw [bif_neg (by omega)]
  · rw [show ((x.length : Int) != (y.length : Int)) = true by simp; omega, cond_true]
    congr 1
    simp only [Bool.false_eq, decide_eq_false_iff_not]
    exact fun e => hl (by rw [e])
theorem impl_SameSystem_law {A : Type} (ret : Bool → Option A) (x y) (h : impl_SameSystem_pre x y = true) : impl_SameSystem_s ret x y = ret (impl_SameSystem_f x y) := by
  obtain ⟨x1, x2, x3, x4, x5, x6, x7, ⟨⟩⟩ := x
  obtain ⟨y1, y2, y3, y4, y5, y6, y7, ⟨⟩⟩ := y
  unfold impl_SameSystem_s impl_SameSystem_f
  simp only [impl_SameSystem_pre, w_pair, decide_eq_true_eq] at h
  simp only [Equal_Ints_f, Equal_Ints_pre, EqualFunc_Rows_f, EqualFunc_Rows_pre, impl_SameSystem_1_f, impl_SameSystem_1_pre]
  repeat rw [chk_pos (decide_eq_true (by omega))]
  repeat rw [eqD_val rfl]
  simp only [Prod.mk.injEq]
  grind
theorem Equal_Strs_law {A : Type} (ret : Bool → Option A) (x y) (h : Equal_Strs_pre x y = true) : Equal_Strs_s ret (Equal_Strs_k x y) x y = ret (Equal_Strs_f x y) := by
  simp only [Equal_Strs_pre, decide_eq_true_eq] at h
  have hx := len_le_w x
  unfold Equal_Strs_s Equal_Strs_t0 Equal_Strs_f
  by_cases hl : x.length = y.length
  · rw [show ((x.length : Int) != (y.length : Int)) = false by simp [hl], cond_false]
    refine eq_loop0 (L := Equal_Strs_l1 ret (Equal_Strs_k x y) x y) hl (fun n i hi => ?_) (fun n => ?_) (by unfold Equal_Strs_k; omega)
    · have hy : i < y.length := by omega
      show Equal_Strs_t1 _ _ _ _ _ = _
      unfold Equal_Strs_t1
      rw [bif_pos (by omega), chk_pos (inb_pos hi), chk_pos (inb_pos hy), getD_at hi, getD_at hy]
      rw [w64_id (by omega) (by omega)]
      grind
    · show Equal_Strs_t1 _ _ _ _ _ = _
      unfold Equal_Strs_t1
      rw [bif_neg (by omega)]
  · rw [show ((x.length : Int) != (y.length : Int)) = true by simp; omega, cond_true]
    congr 1
    simp only [Bool.false_eq, decide_eq_false_iff_not]
    exact fun e => hl (by rw [e])
theorem impl_SameWitness_law {A : Type} (ret : Bool → Option A) (x y) (h : impl_SameWitness_pre x y = true) : impl_SameWitness_s ret x y = ret (impl_SameWitness_f x y) := by
  obtain ⟨x1, x2, ⟨⟩⟩ := x
  obtain ⟨y1, y2, ⟨⟩⟩ := y
  unfold impl_SameWitness_s impl_SameWitness_f
  simp only [impl_SameWitness_pre, w_pair, decide_eq_true_eq] at h
  simp only [Equal_Strs_f, Equal_Strs_pre]
  repeat rw [chk_pos (decide_eq_true (by omega))]
  repeat rw [eqD_val rfl]
  simp only [Prod.mk.injEq]
  grind
theorem Equal_Points_law {A : Type} (ret : Bool → Option A) (x y) (h : Equal_Points_pre x y = true) : Equal_Points_s ret (Equal_Points_k x y) x y = ret (Equal_Points_f x y) := by
  simp only [Equal_Points_pre, decide_eq_true_eq] at h
  have hx := len_le_w x
  unfold Equal_Points_s Equal_Points_t0 Equal_Points_f
  by_cases hl : x.length = y.length
  · rw [show ((x.length : Int) != (y.length : Int)) = false by simp [hl], cond_false]
    refine eq_loop0 (L := Equal_Points_l1 ret (Equal_Points_k x y) x y) hl (fun n i hi => ?_) (fun n => ?_) (by unfold Equal_Points_k; omega)
    · have hy : i < y.length := by omega
      show Equal_Points_t1 _ _ _ _ _ = _
      unfold Equal_Points_t1
      rw [bif_pos (by omega), chk_pos (inb_pos hi), chk_pos (inb_pos hy), getD_at hi, getD_at hy]
      rw [w64_id (by omega) (by omega)]
      rw [eqD_val rfl]
      grind
    · show Equal_Points_t1 _ _ _ _ _ = _
      unfold Equal_Points_t1
      rw [bif_neg (by omega)]
  · rw [show ((x.length : Int) != (y.length : Int)) = true by simp; omega, cond_true]
    congr 1
    simp only [Bool.false_eq, decide_eq_false_iff_not]
    exact fun e => hl (by rw [e])
theorem impl_SameKey_law {A : Type} (ret : Bool → Option A) (x y) (h : impl_SameKey_pre x y = true) : impl_SameKey_s ret x y = ret (impl_SameKey_f x y) := by
  obtain ⟨x1, x2, x3, x4, x5, x6, ⟨⟩⟩ := x
  obtain ⟨y1, y2, y3, y4, y5, y6, ⟨⟩⟩ := y
  unfold impl_SameKey_s impl_SameKey_f
  simp only [impl_SameKey_pre, w_pair, decide_eq_true_eq] at h
  simp only [Equal_Points_f, Equal_Points_pre]
  repeat rw [chk_pos (decide_eq_true (by omega))]
  repeat rw [eqD_val rfl]
  simp only [Prod.mk.injEq]
  grind
theorem impl_SameArtefact_law {A : Type} (ret : Bool → Option A) (x y) (h : impl_SameArtefact_pre x y = true) : impl_SameArtefact_s ret x y = ret (impl_SameArtefact_f x y) := by
  obtain ⟨x1, x2, x3, x4, x5, x6, x7, x8, ⟨⟩⟩ := x
  obtain ⟨y1, y2, y3, y4, y5, y6, y7, y8, ⟨⟩⟩ := y
  unfold impl_SameArtefact_s impl_SameArtefact_f
  simp only [impl_SameArtefact_pre, w_pair, decide_eq_true_eq] at h
  simp only [impl_SameSystem_f, impl_SameSystem_pre, impl_SameWitness_f, impl_SameWitness_pre, impl_SameKey_f, impl_SameKey_pre]
  repeat rw [chk_pos (decide_eq_true (by omega))]
  repeat rw [eqD_val rfl]
  simp only [Prod.mk.injEq]
  grind
theorem laws_FnExactSameArtefact_law {A : Type} (ret : Bool → Option A) (a b) (h : laws_FnExactSameArtefact_pre a b = true) : laws_FnExactSameArtefact_s ret a b = ret (laws_FnExactSameArtefact_f a b) := by
  rw [laws_FnExactSameArtefact_pre, Bool.and_eq_true] at h
  have p0 : laws_szArtefact_pre a 1048576 = true := by unfold laws_szArtefact_pre; rw [Bool.and_eq_true]; exact ⟨h.1, rfl⟩
  unfold laws_FnExactSameArtefact_s laws_FnExactSameArtefact_f
  rw [chk_pos p0]
  by_cases ha : (w a : Int) ≤ 1048576
  · rw [show laws_szArtefact_f a 1048576 = _ from szF_pos ha, bif_neg (by omega)]
    have p01 : laws_szArtefact_pre b (1048576 - (w a : Int)) = true := by unfold laws_szArtefact_pre; rw [Bool.and_eq_true]; exact ⟨h.2, szR_iff.2 (by omega)⟩
    rw [chk_pos p01]
    by_cases hb : (w b : Int) ≤ 1048576 - (w a : Int)
    · rw [show laws_szArtefact_f b (1048576 - (w a : Int)) = _ from szF_pos hb, bif_neg (by omega)]
      have p1 : laws_toArtefact_pre a = true := decide_eq_true (by omega)
      have p2 : laws_eqArtefact_pre a a = true := decide_eq_true (by omega)
      have p3 : laws_toArtefact_pre b = true := decide_eq_true (by omega)
      have p4 : laws_eqArtefact_pre b b = true := decide_eq_true (by omega)
      have p5 : spec_SameArtefact_pre a b = true := decide_eq_true (by omega)
      have p6 : impl_SameArtefact_pre a b = true := decide_eq_true (by omega)
      simp only [laws_toArtefact_f, laws_eqArtefact_f, spec_SameArtefact_f, impl_SameArtefact_f, p1, p2, p3, p4, p5, p6, chk_tt, decide_true, Bool.not_true, cond_false, beq_self_eq_true]
    · rw [show laws_szArtefact_f b (1048576 - (w a : Int)) = _ from szF_neg hb, bif_pos (by omega)]
  · rw [show laws_szArtefact_f a 1048576 = _ from szF_neg ha, bif_pos (by omega)]
end Go.Vp
