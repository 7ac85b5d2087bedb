/- FnExactCurveIn, the plain functions: what the Go functions that the law reaches compute, and that it is what is told here. By program and by hand. -/
import Derived.Test.YtopiinnggjcbnaaVP
set_option linter.unusedVariables false
namespace Go.Vp
open Go Go.Vi Wt
def laws_toIntS_f (x : (List Int)) : (List Int) := x
def laws_toIntS_pre (x : (List Int)) : Bool := decide (w x ≤ 1048576)
def laws_toIntS_k (x : (List Int)) : Nat := x.length + 1
def laws_eqStringS_f (x y : (List Str)) : Bool := decide (x = y)
def laws_eqStringS_pre (x y : (List Str)) : Bool := decide (w x ≤ 4611686018427387904)
def laws_eqStringS_k (x y : (List Str)) : Nat := x.length + 1
def laws_eqIntS_f (x y : (List Int)) : Bool := decide (x = y)
def laws_eqIntS_pre (x y : (List Int)) : Bool := decide (w x ≤ 4611686018427387904)
def laws_eqIntS_k (x y : (List Int)) : Nat := x.length + 1
def laws_szStringS_f (x : (List Str)) (left : Int) : Int := szF x left
def laws_szStringS_pre (x : (List Str)) (left : Int) : Bool := fit (.sl .str) x && szR left
def laws_szStringS_k (x : (List Str)) (left : Int) : Nat := x.length + 1
def laws_toStringS_f (x : (List Str)) : (List Str) := x
def laws_toStringS_pre (x : (List Str)) : Bool := decide (w x ≤ 1048576)
def laws_toStringS_k (x : (List Str)) : Nat := x.length + 1
def laws_szPoint_f (x : TPoint) (left : Int) : Int := szF x left
def laws_szPoint_pre (x : TPoint) (left : Int) : Bool := fit (.pair .bool (.pair .str (.pair .str .unit))) x && szR left
def laws_szPair_f (x : TPair) (left : Int) : Int := szF x left
def laws_szPair_pre (x : TPair) (left : Int) : Bool := fit (.pair .str (.pair .str .unit)) x && szR left
def laws_szPairPoint_f (x : TPairPoint) (left : Int) : Int := szF x left
def laws_szPairPoint_pre (x : TPairPoint) (left : Int) : Bool := fit (.pair .bool (.pair (.pair .str (.pair .str .unit)) (.pair (.pair .str (.pair .str .unit)) .unit))) x && szR left
def laws_szIntS_f (x : (List Int)) (left : Int) : Int := szF x left
def laws_szIntS_pre (x : (List Int)) (left : Int) : Bool := fit (.sl (.int .i64)) x && szR left
def laws_szIntS_k (x : (List Int)) (left : Int) : Nat := x.length + 1
def laws_szTerm_f (x : TTerm) (left : Int) : Int := szF x left
def laws_szTerm_pre (x : TTerm) (left : Int) : Bool := fit (.pair (.int .i64) (.pair .str .unit)) x && szR left
def laws_szTermS_f (x : (List TTerm)) (left : Int) : Int := szF x left
def laws_szTermS_pre (x : (List TTerm)) (left : Int) : Bool := fit (.sl (.pair (.int .i64) (.pair .str .unit))) x && szR left
def laws_szTermS_k (x : (List TTerm)) (left : Int) : Nat := x.length + 1
def laws_szRow_f (x : TRow) (left : Int) : Int := szF x left
def laws_szRow_pre (x : TRow) (left : Int) : Bool := fit (.pair (.sl (.pair (.int .i64) (.pair .str .unit))) (.pair (.sl (.pair (.int .i64) (.pair .str .unit))) (.pair (.sl (.pair (.int .i64) (.pair .str .unit))) .unit))) x && szR left
def laws_szRowS_f (x : (List TRow)) (left : Int) : Int := szF x left
def laws_szRowS_pre (x : (List TRow)) (left : Int) : Bool := fit (.sl (.pair (.sl (.pair (.int .i64) (.pair .str .unit))) (.pair (.sl (.pair (.int .i64) (.pair .str .unit))) (.pair (.sl (.pair (.int .i64) (.pair .str .unit))) .unit)))) x && szR left
def laws_szRowS_k (x : (List TRow)) (left : Int) : Nat := x.length + 1
def laws_szSystem_f (x : TSystem) (left : Int) : Int := szF x left
def laws_szSystem_pre (x : TSystem) (left : Int) : Bool := fit (.pair (.int .i64) (.pair (.int .i64) (.pair (.int .i64) (.pair (.int .i64) (.pair (.int .i64) (.pair (.sl (.int .i64)) (.pair (.sl (.pair (.sl (.pair (.int .i64) (.pair .str .unit))) (.pair (.sl (.pair (.int .i64) (.pair .str .unit))) (.pair (.sl (.pair (.int .i64) (.pair .str .unit))) .unit)))) .unit))))))) x && szR left
def laws_szWitness_f (x : TWitness) (left : Int) : Int := szF x left
def laws_szWitness_pre (x : TWitness) (left : Int) : Bool := fit (.pair (.int .i64) (.pair (.sl .str) .unit)) x && szR left
def laws_szPointS_f (x : (List TPoint)) (left : Int) : Int := szF x left
def laws_szPointS_pre (x : (List TPoint)) (left : Int) : Bool := fit (.sl (.pair .bool (.pair .str (.pair .str .unit)))) x && szR left
def laws_szPointS_k (x : (List TPoint)) (left : Int) : Nat := x.length + 1
def laws_szKey_f (x : TKey) (left : Int) : Int := szF x left
def laws_szKey_pre (x : TKey) (left : Int) : Bool := fit (.pair (.int .i64) (.pair (.pair .bool (.pair .str (.pair .str .unit))) (.pair (.pair .bool (.pair (.pair .str (.pair .str .unit)) (.pair (.pair .str (.pair .str .unit)) .unit))) (.pair (.pair .bool (.pair (.pair .str (.pair .str .unit)) (.pair (.pair .str (.pair .str .unit)) .unit))) (.pair (.pair .bool (.pair (.pair .str (.pair .str .unit)) (.pair (.pair .str (.pair .str .unit)) .unit))) (.pair (.sl (.pair .bool (.pair .str (.pair .str .unit)))) .unit)))))) x && szR left
def laws_szProof_f (x : TProof) (left : Int) : Int := szF x left
def laws_szProof_pre (x : TProof) (left : Int) : Bool := fit (.pair (.int .i64) (.pair (.pair .bool (.pair .str (.pair .str .unit))) (.pair (.pair .bool (.pair (.pair .str (.pair .str .unit)) (.pair (.pair .str (.pair .str .unit)) .unit))) (.pair (.pair .bool (.pair .str (.pair .str .unit))) .unit)))) x && szR left
def laws_szArtefact_f (x : TArtefact) (left : Int) : Int := szF x left
def laws_szArtefact_pre (x : TArtefact) (left : Int) : Bool := fit (.pair (.int .i64) (.pair (.int .i64) (.pair (.pair .bool (.pair .str (.pair .str .unit))) (.pair (.pair .bool (.pair (.pair .str (.pair .str .unit)) (.pair (.pair .str (.pair .str .unit)) .unit))) (.pair (.pair (.int .i64) (.pair (.int .i64) (.pair (.int .i64) (.pair (.int .i64) (.pair (.int .i64) (.pair (.sl (.int .i64)) (.pair (.sl (.pair (.sl (.pair (.int .i64) (.pair .str .unit))) (.pair (.sl (.pair (.int .i64) (.pair .str .unit))) (.pair (.sl (.pair (.int .i64) (.pair .str .unit))) .unit)))) .unit))))))) (.pair (.pair (.int .i64) (.pair (.sl .str) .unit)) (.pair (.pair (.int .i64) (.pair (.pair .bool (.pair .str (.pair .str .unit))) (.pair (.pair .bool (.pair (.pair .str (.pair .str .unit)) (.pair (.pair .str (.pair .str .unit)) .unit))) (.pair (.pair .bool (.pair (.pair .str (.pair .str .unit)) (.pair (.pair .str (.pair .str .unit)) .unit))) (.pair (.pair .bool (.pair (.pair .str (.pair .str .unit)) (.pair (.pair .str (.pair .str .unit)) .unit))) (.pair (.sl (.pair .bool (.pair .str (.pair .str .unit)))) .unit)))))) (.pair (.pair (.int .i64) (.pair (.pair .bool (.pair .str (.pair .str .unit))) (.pair (.pair .bool (.pair (.pair .str (.pair .str .unit)) (.pair (.pair .str (.pair .str .unit)) .unit))) (.pair (.pair .bool (.pair .str (.pair .str .unit))) .unit)))) .unit)))))))) x && szR left
def laws_toPoint_f (x : TPoint) : TPoint := x
def laws_toPair_f (x : TPair) : TPair := x
def laws_toPairPoint_f (x : TPairPoint) : TPairPoint := x
def laws_toTerm_f (x : TTerm) : TTerm := x
def laws_toTermS_f (x : (List TTerm)) : (List TTerm) := x
def laws_toTermS_pre (x : (List TTerm)) : Bool := decide (w x ≤ 1048576)
def laws_toTermS_k (x : (List TTerm)) : Nat := x.length + 1
def laws_toRow_f (x : TRow) : TRow := x
def laws_toRow_pre (x : TRow) : Bool := decide (w x ≤ 1048576)
def laws_toRowS_f (x : (List TRow)) : (List TRow) := x
def laws_toRowS_pre (x : (List TRow)) : Bool := decide (w x ≤ 1048576)
def laws_toRowS_k (x : (List TRow)) : Nat := x.length + 1
def laws_toSystem_f (x : TSystem) : TSystem := x
def laws_toSystem_pre (x : TSystem) : Bool := decide (w x ≤ 1048576)
def laws_toWitness_f (x : TWitness) : TWitness := x
def laws_toWitness_pre (x : TWitness) : Bool := decide (w x ≤ 1048576)
def laws_toPointS_f (x : (List TPoint)) : (List TPoint) := x
def laws_toPointS_pre (x : (List TPoint)) : Bool := decide (w x ≤ 1048576)
def laws_toPointS_k (x : (List TPoint)) : Nat := x.length + 1
def laws_toKey_f (x : TKey) : TKey := x
def laws_toKey_pre (x : TKey) : Bool := decide (w x ≤ 1048576)
def laws_toProof_f (x : TProof) : TProof := x
def laws_toArtefact_f (x : TArtefact) : TArtefact := x
def laws_toArtefact_pre (x : TArtefact) : Bool := decide (w x ≤ 1048576)
def curveIn (a : TArtefact) : Int := if a.1 = 1 ∨ a.1 = 2 ∨ a.1 = 3 ∨ a.1 = 4 then a.2.1 else if a.1 = 5 then a.2.2.2.2.1.1 else if a.1 = 6 then a.2.2.2.2.2.1.1 else if a.1 = 7 then a.2.2.2.2.2.2.1.1 else if a.1 = 8 ∨ a.1 = 9 then a.2.2.2.2.2.2.2.1.1 else 0
def spec_CurveIn_f (a : TArtefact) : Int := curveIn a
def impl_CurveIn_f (a : TArtefact) : Int := curveIn a
def laws_eqPoint_f (x y : TPoint) : Bool := decide (x = y)
def laws_eqPair_f (x y : TPair) : Bool := decide (x = y)
def laws_eqPairPoint_f (x y : TPairPoint) : Bool := decide (x = y)
def laws_eqTerm_f (x y : TTerm) : Bool := decide (x = y)
def laws_eqTermS_f (x y : (List TTerm)) : Bool := decide (x = y)
def laws_eqTermS_pre (x y : (List TTerm)) : Bool := decide (w x ≤ 4611686018427387904)
def laws_eqTermS_k (x y : (List TTerm)) : Nat := x.length + 1
def laws_eqRow_f (x y : TRow) : Bool := decide (x = y)
def laws_eqRow_pre (x y : TRow) : Bool := decide (w x ≤ 4611686018427387904)
def laws_eqRowS_f (x y : (List TRow)) : Bool := decide (x = y)
def laws_eqRowS_pre (x y : (List TRow)) : Bool := decide (w x ≤ 4611686018427387904)
def laws_eqRowS_k (x y : (List TRow)) : Nat := x.length + 1
def laws_eqSystem_f (x y : TSystem) : Bool := decide (x = y)
def laws_eqSystem_pre (x y : TSystem) : Bool := decide (w x ≤ 4611686018427387904)
def laws_eqWitness_f (x y : TWitness) : Bool := decide (x = y)
def laws_eqWitness_pre (x y : TWitness) : Bool := decide (w x ≤ 4611686018427387904)
def laws_eqPointS_f (x y : (List TPoint)) : Bool := decide (x = y)
def laws_eqPointS_pre (x y : (List TPoint)) : Bool := decide (w x ≤ 4611686018427387904)
def laws_eqPointS_k (x y : (List TPoint)) : Nat := x.length + 1
def laws_eqKey_f (x y : TKey) : Bool := decide (x = y)
def laws_eqKey_pre (x y : TKey) : Bool := decide (w x ≤ 4611686018427387904)
def laws_eqProof_f (x y : TProof) : Bool := decide (x = y)
def laws_eqArtefact_f (x y : TArtefact) : Bool := decide (x = y)
def laws_eqArtefact_pre (x y : TArtefact) : Bool := decide (w x ≤ 4611686018427387904)
def laws_FnExactCurveIn_f (_ : TArtefact) : Bool := true
def laws_FnExactCurveIn_pre (a : TArtefact) : Bool := fit (.pair (.int .i64) (.pair (.int .i64) (.pair tPoint (.pair tPairPoint (.pair tSystem (.pair tWitness (.pair tKey (.pair tProof .unit)))))))) a
def laws_toIntS_t1 {A : Type} (ret : (List Int) → Option A) (rec1 : Int → (List Int) → Option A) (a : (List Int)) (v1 : Int) (v2 : (List Int)) : Option A :=
  bif (decide (v1 < (a.length : Int))) then (chk (decide (0 ≤ v1) && decide (v1 < (a.length : Int))) (chk (decide (0 ≤ v1) && decide (v1 < (v2.length : Int))) (rec1 (IntKind.wrap .i64 (v1 + (1 : Int))) (v2.set v1.toNat (a.getD v1.toNat (0 : Int)))))) else (ret v2)
def laws_toIntS_l1 {A : Type} (ret : (List Int) → Option A) (k : Nat) (a : (List Int)) : Nat → Int → (List Int) → Option A
  | 0 => fun _ _ => none
  | n + 1 => fun v1 v2 => laws_toIntS_t1 ret (laws_toIntS_l1 ret k a n) a v1 v2
def laws_toIntS_t0 {A : Type} (ret : (List Int) → Option A) (run1 : (List Int) → Int → (List Int) → Option A) (a : (List Int)) : Option A :=
  chk (decide (0 ≤ (a.length : Int)) && decide ((a.length : Int) ≤ (a.length : Int)) && decide ((a.length : Int) * 8 ≤ maxBytes)) (run1 a (0 : Int) (List.replicate (a.length : Int).toNat (0 : Int)))
def laws_toIntS_s {A : Type} (ret : (List Int) → Option A) (k : Nat) (a : (List Int)) : Option A := laws_toIntS_t0 ret (fun a_ v1_ v2_ => laws_toIntS_l1 ret k a_ k v1_ v2_) a
def laws_eqStringS_t1 {A : Type} (ret : Bool → Option A) (rec1 : Int → Option A) (a : (List Str)) (b : (List Str)) (v1 : Int) : Option A :=
  bif (decide (v1 < (a.length : Int))) then (chk (decide (0 ≤ v1) && decide (v1 < (a.length : Int))) (chk (decide (0 ≤ v1) && decide (v1 < (b.length : Int))) (bif (!((a.getD v1.toNat ([] : Str)) == (b.getD v1.toNat ([] : Str)))) then (ret false) else (rec1 (IntKind.wrap .i64 (v1 + (1 : Int))))))) else (ret true)
def laws_eqStringS_l1 {A : Type} (ret : Bool → Option A) (k : Nat) (a : (List Str)) (b : (List Str)) : Nat → Int → Option A
  | 0 => fun _ => none
  | n + 1 => fun v1 => laws_eqStringS_t1 ret (laws_eqStringS_l1 ret k a b n) a b v1
def laws_eqStringS_t0 {A : Type} (ret : Bool → Option A) (run1 : (List Str) → (List Str) → Int → Option A) (a : (List Str)) (b : (List Str)) : Option A :=
  bif ((a.length : Int) != (b.length : Int)) then (ret false) else (run1 a b (0 : Int))
def laws_eqStringS_s {A : Type} (ret : Bool → Option A) (k : Nat) (a : (List Str)) (b : (List Str)) : Option A := laws_eqStringS_t0 ret (fun a_ b_ v1_ => laws_eqStringS_l1 ret k a_ b_ k v1_) a b
def laws_eqIntS_t1 {A : Type} (ret : Bool → Option A) (rec1 : Int → Option A) (a : (List Int)) (b : (List Int)) (v1 : Int) : Option A :=
  bif (decide (v1 < (a.length : Int))) then (chk (decide (0 ≤ v1) && decide (v1 < (a.length : Int))) (chk (decide (0 ≤ v1) && decide (v1 < (b.length : Int))) (bif ((a.getD v1.toNat (0 : Int)) != (b.getD v1.toNat (0 : Int))) then (ret false) else (rec1 (IntKind.wrap .i64 (v1 + (1 : Int))))))) else (ret true)
def laws_eqIntS_l1 {A : Type} (ret : Bool → Option A) (k : Nat) (a : (List Int)) (b : (List Int)) : Nat → Int → Option A
  | 0 => fun _ => none
  | n + 1 => fun v1 => laws_eqIntS_t1 ret (laws_eqIntS_l1 ret k a b n) a b v1
def laws_eqIntS_t0 {A : Type} (ret : Bool → Option A) (run1 : (List Int) → (List Int) → Int → Option A) (a : (List Int)) (b : (List Int)) : Option A :=
  bif ((a.length : Int) != (b.length : Int)) then (ret false) else (run1 a b (0 : Int))
def laws_eqIntS_s {A : Type} (ret : Bool → Option A) (k : Nat) (a : (List Int)) (b : (List Int)) : Option A := laws_eqIntS_t0 ret (fun a_ b_ v1_ => laws_eqIntS_l1 ret k a_ b_ k v1_) a b
def laws_szStringS_t1 {A : Type} (ret : Int → Option A) (rec1 : Int → Int → Option A) (a : (List Str)) (v1 : Int) (v2 : Int) : Option A :=
  bif (decide (v2 < (a.length : Int))) then (chk (decide (0 ≤ v2) && decide (v2 < (a.length : Int))) (bif (decide ((IntKind.wrap .i64 (v1 - ((a.getD v2.toNat ([] : Str)).length : Int))) < (0 : Int))) then (ret (-1 : Int)) else (rec1 (IntKind.wrap .i64 (v1 - ((a.getD v2.toNat ([] : Str)).length : Int))) (IntKind.wrap .i64 (v2 + (1 : Int)))))) else (ret v1)
def laws_szStringS_l1 {A : Type} (ret : Int → Option A) (k : Nat) (a : (List Str)) : Nat → Int → Int → Option A
  | 0 => fun _ _ => none
  | n + 1 => fun v1 v2 => laws_szStringS_t1 ret (laws_szStringS_l1 ret k a n) a v1 v2
def laws_szStringS_t0 {A : Type} (ret : Int → Option A) (run1 : (List Str) → Int → Int → Option A) (a : (List Str)) (left : Int) : Option A :=
  bif (decide ((IntKind.wrap .i64 (left - (a.length : Int))) < (0 : Int))) then (ret (-1 : Int)) else (run1 a (IntKind.wrap .i64 (left - (a.length : Int))) (0 : Int))
def laws_szStringS_s {A : Type} (ret : Int → Option A) (k : Nat) (a : (List Str)) (left : Int) : Option A := laws_szStringS_t0 ret (fun a_ v1_ v2_ => laws_szStringS_l1 ret k a_ k v1_ v2_) a left
def laws_toStringS_t1 {A : Type} (ret : (List Str) → Option A) (rec1 : Int → (List Str) → Option A) (a : (List Str)) (v1 : Int) (v2 : (List Str)) : Option A :=
  bif (decide (v1 < (a.length : Int))) then (chk (decide (0 ≤ v1) && decide (v1 < (a.length : Int))) (chk (decide (0 ≤ v1) && decide (v1 < (v2.length : Int))) (rec1 (IntKind.wrap .i64 (v1 + (1 : Int))) (v2.set v1.toNat (a.getD v1.toNat ([] : Str)))))) else (ret v2)
def laws_toStringS_l1 {A : Type} (ret : (List Str) → Option A) (k : Nat) (a : (List Str)) : Nat → Int → (List Str) → Option A
  | 0 => fun _ _ => none
  | n + 1 => fun v1 v2 => laws_toStringS_t1 ret (laws_toStringS_l1 ret k a n) a v1 v2
def laws_toStringS_t0 {A : Type} (ret : (List Str) → Option A) (run1 : (List Str) → Int → (List Str) → Option A) (a : (List Str)) : Option A :=
  chk (decide (0 ≤ (a.length : Int)) && decide ((a.length : Int) ≤ (a.length : Int)) && decide ((a.length : Int) * 16 ≤ maxBytes)) (run1 a (0 : Int) (List.replicate (a.length : Int).toNat ([] : Str)))
def laws_toStringS_s {A : Type} (ret : (List Str) → Option A) (k : Nat) (a : (List Str)) : Option A := laws_toStringS_t0 ret (fun a_ v1_ v2_ => laws_toStringS_l1 ret k a_ k v1_ v2_) a
def laws_szPoint_s {A : Type} (ret : Int → Option A) (a : TPoint) (left : Int) : Option A :=
  bif (decide ((IntKind.wrap .i64 (left - (a.2.1.length : Int))) < (0 : Int))) then (ret (-1 : Int)) else (bif (decide ((IntKind.wrap .i64 ((IntKind.wrap .i64 (left - (a.2.1.length : Int))) - (a.2.2.1.length : Int))) < (0 : Int))) then (ret (-1 : Int)) else (ret (IntKind.wrap .i64 ((IntKind.wrap .i64 (left - (a.2.1.length : Int))) - (a.2.2.1.length : Int)))))
def laws_szPair_s {A : Type} (ret : Int → Option A) (a : TPair) (left : Int) : Option A :=
  bif (decide ((IntKind.wrap .i64 (left - (a.1.length : Int))) < (0 : Int))) then (ret (-1 : Int)) else (bif (decide ((IntKind.wrap .i64 ((IntKind.wrap .i64 (left - (a.1.length : Int))) - (a.2.1.length : Int))) < (0 : Int))) then (ret (-1 : Int)) else (ret (IntKind.wrap .i64 ((IntKind.wrap .i64 (left - (a.1.length : Int))) - (a.2.1.length : Int)))))
def laws_szPairPoint_s {A : Type} (ret : Int → Option A) (a : TPairPoint) (left : Int) : Option A :=
  chk (laws_szPair_pre a.2.1 left) (bif (decide ((laws_szPair_f a.2.1 left) < (0 : Int))) then (ret (-1 : Int)) else (chk (laws_szPair_pre a.2.2.1 (laws_szPair_f a.2.1 left)) (bif (decide ((laws_szPair_f a.2.2.1 (laws_szPair_f a.2.1 left)) < (0 : Int))) then (ret (-1 : Int)) else (ret (laws_szPair_f a.2.2.1 (laws_szPair_f a.2.1 left))))))
def laws_szIntS_s {A : Type} (ret : Int → Option A) (a : (List Int)) (left : Int) : Option A :=
  bif (decide ((IntKind.wrap .i64 (left - (a.length : Int))) < (0 : Int))) then (ret (-1 : Int)) else (ret (IntKind.wrap .i64 (left - (a.length : Int))))
def laws_szTerm_s {A : Type} (ret : Int → Option A) (a : TTerm) (left : Int) : Option A :=
  bif (decide ((IntKind.wrap .i64 (left - (a.2.1.length : Int))) < (0 : Int))) then (ret (-1 : Int)) else (ret (IntKind.wrap .i64 (left - (a.2.1.length : Int))))
def laws_szTermS_t1 {A : Type} (ret : Int → Option A) (rec1 : Int → Int → Option A) (a : (List TTerm)) (v2 : Int) (v3 : Int) : Option A :=
  bif (decide (v3 < (a.length : Int))) then (chk (decide (0 ≤ v3) && decide (v3 < (a.length : Int))) (chk (laws_szTerm_pre (a.getD v3.toNat ((0 : Int), (([] : Str), ()))) v2) ((let y7 : Int := laws_szTerm_f (a.getD v3.toNat ((0 : Int), (([] : Str), ()))) v2; bif (decide (y7 < (0 : Int))) then (ret (-1 : Int)) else (rec1 y7 (IntKind.wrap .i64 (v3 + (1 : Int)))))))) else (ret v2)
def laws_szTermS_l1 {A : Type} (ret : Int → Option A) (k : Nat) (a : (List TTerm)) : Nat → Int → Int → Option A
  | 0 => fun _ _ => none
  | n + 1 => fun v2 v3 => laws_szTermS_t1 ret (laws_szTermS_l1 ret k a n) a v2 v3
def laws_szTermS_t0 {A : Type} (ret : Int → Option A) (run1 : (List TTerm) → Int → Int → Option A) (a : (List TTerm)) (left : Int) : Option A :=
  bif (decide ((IntKind.wrap .i64 (left - (a.length : Int))) < (0 : Int))) then (ret (-1 : Int)) else (run1 a (IntKind.wrap .i64 (left - (a.length : Int))) (0 : Int))
def laws_szTermS_s {A : Type} (ret : Int → Option A) (k : Nat) (a : (List TTerm)) (left : Int) : Option A := laws_szTermS_t0 ret (fun a_ v2_ v3_ => laws_szTermS_l1 ret k a_ k v2_ v3_) a left
def laws_szRow_s {A : Type} (ret : Int → Option A) (a : TRow) (left : Int) : Option A :=
  chk (laws_szTermS_pre a.1 left) (bif (decide ((laws_szTermS_f a.1 left) < (0 : Int))) then (ret (-1 : Int)) else (chk (laws_szTermS_pre a.2.1 (laws_szTermS_f a.1 left)) (bif (decide ((laws_szTermS_f a.2.1 (laws_szTermS_f a.1 left)) < (0 : Int))) then (ret (-1 : Int)) else (chk (laws_szTermS_pre a.2.2.1 (laws_szTermS_f a.2.1 (laws_szTermS_f a.1 left))) ((let y1 : Int := laws_szTermS_f a.2.2.1 (laws_szTermS_f a.2.1 (laws_szTermS_f a.1 left)); bif (decide (y1 < (0 : Int))) then (ret (-1 : Int)) else (ret y1)))))))
def laws_szRowS_t1 {A : Type} (ret : Int → Option A) (rec1 : Int → Int → Option A) (a : (List TRow)) (v2 : Int) (v3 : Int) : Option A :=
  bif (decide (v3 < (a.length : Int))) then (chk (decide (0 ≤ v3) && decide (v3 < (a.length : Int))) (chk (laws_szRow_pre (a.getD v3.toNat (([] : (List TTerm)), (([] : (List TTerm)), (([] : (List TTerm)), ())))) v2) ((let y7 : Int := laws_szRow_f (a.getD v3.toNat (([] : (List TTerm)), (([] : (List TTerm)), (([] : (List TTerm)), ())))) v2; bif (decide (y7 < (0 : Int))) then (ret (-1 : Int)) else (rec1 y7 (IntKind.wrap .i64 (v3 + (1 : Int)))))))) else (ret v2)
def laws_szRowS_l1 {A : Type} (ret : Int → Option A) (k : Nat) (a : (List TRow)) : Nat → Int → Int → Option A
  | 0 => fun _ _ => none
  | n + 1 => fun v2 v3 => laws_szRowS_t1 ret (laws_szRowS_l1 ret k a n) a v2 v3
def laws_szRowS_t0 {A : Type} (ret : Int → Option A) (run1 : (List TRow) → Int → Int → Option A) (a : (List TRow)) (left : Int) : Option A :=
  bif (decide ((IntKind.wrap .i64 (left - (a.length : Int))) < (0 : Int))) then (ret (-1 : Int)) else (run1 a (IntKind.wrap .i64 (left - (a.length : Int))) (0 : Int))
def laws_szRowS_s {A : Type} (ret : Int → Option A) (k : Nat) (a : (List TRow)) (left : Int) : Option A := laws_szRowS_t0 ret (fun a_ v2_ v3_ => laws_szRowS_l1 ret k a_ k v2_ v3_) a left
def laws_szSystem_s {A : Type} (ret : Int → Option A) (a : TSystem) (left : Int) : Option A :=
  chk (laws_szIntS_pre a.2.2.2.2.2.1 left) (bif (decide ((laws_szIntS_f a.2.2.2.2.2.1 left) < (0 : Int))) then (ret (-1 : Int)) else (chk (laws_szRowS_pre a.2.2.2.2.2.2.1 (laws_szIntS_f a.2.2.2.2.2.1 left)) ((let y1 : Int := laws_szRowS_f a.2.2.2.2.2.2.1 (laws_szIntS_f a.2.2.2.2.2.1 left); bif (decide (y1 < (0 : Int))) then (ret (-1 : Int)) else (ret y1)))))
def laws_szWitness_s {A : Type} (ret : Int → Option A) (a : TWitness) (left : Int) : Option A :=
  chk (laws_szStringS_pre a.2.1 left) (bif (decide ((laws_szStringS_f a.2.1 left) < (0 : Int))) then (ret (-1 : Int)) else (ret (laws_szStringS_f a.2.1 left)))
def laws_szPointS_t1 {A : Type} (ret : Int → Option A) (rec1 : Int → Int → Option A) (a : (List TPoint)) (v2 : Int) (v3 : Int) : Option A :=
  bif (decide (v3 < (a.length : Int))) then (chk (decide (0 ≤ v3) && decide (v3 < (a.length : Int))) (chk (laws_szPoint_pre (a.getD v3.toNat (false, (([] : Str), (([] : Str), ())))) v2) ((let y7 : Int := laws_szPoint_f (a.getD v3.toNat (false, (([] : Str), (([] : Str), ())))) v2; bif (decide (y7 < (0 : Int))) then (ret (-1 : Int)) else (rec1 y7 (IntKind.wrap .i64 (v3 + (1 : Int)))))))) else (ret v2)
def laws_szPointS_l1 {A : Type} (ret : Int → Option A) (k : Nat) (a : (List TPoint)) : Nat → Int → Int → Option A
  | 0 => fun _ _ => none
  | n + 1 => fun v2 v3 => laws_szPointS_t1 ret (laws_szPointS_l1 ret k a n) a v2 v3
def laws_szPointS_t0 {A : Type} (ret : Int → Option A) (run1 : (List TPoint) → Int → Int → Option A) (a : (List TPoint)) (left : Int) : Option A :=
  bif (decide ((IntKind.wrap .i64 (left - (a.length : Int))) < (0 : Int))) then (ret (-1 : Int)) else (run1 a (IntKind.wrap .i64 (left - (a.length : Int))) (0 : Int))
def laws_szPointS_s {A : Type} (ret : Int → Option A) (k : Nat) (a : (List TPoint)) (left : Int) : Option A := laws_szPointS_t0 ret (fun a_ v2_ v3_ => laws_szPointS_l1 ret k a_ k v2_ v3_) a left
def laws_szKey_s {A : Type} (ret : Int → Option A) (a : TKey) (left : Int) : Option A :=
  chk (laws_szPoint_pre a.2.1 left) (bif (decide ((laws_szPoint_f a.2.1 left) < (0 : Int))) then (ret (-1 : Int)) else (chk (laws_szPairPoint_pre a.2.2.1 (laws_szPoint_f a.2.1 left)) (bif (decide ((laws_szPairPoint_f a.2.2.1 (laws_szPoint_f a.2.1 left)) < (0 : Int))) then (ret (-1 : Int)) else (chk (laws_szPairPoint_pre a.2.2.2.1 (laws_szPairPoint_f a.2.2.1 (laws_szPoint_f a.2.1 left))) ((let y1 : Int := laws_szPairPoint_f a.2.2.2.1 (laws_szPairPoint_f a.2.2.1 (laws_szPoint_f a.2.1 left)); bif (decide (y1 < (0 : Int))) then (ret (-1 : Int)) else (chk (laws_szPairPoint_pre a.2.2.2.2.1 y1) (bif (decide ((laws_szPairPoint_f a.2.2.2.2.1 y1) < (0 : Int))) then (ret (-1 : Int)) else (chk (laws_szPointS_pre a.2.2.2.2.2.1 (laws_szPairPoint_f a.2.2.2.2.1 y1)) ((let y2 : Int := laws_szPointS_f a.2.2.2.2.2.1 (laws_szPairPoint_f a.2.2.2.2.1 y1); bif (decide (y2 < (0 : Int))) then (ret (-1 : Int)) else (ret y2))))))))))))
def laws_szProof_s {A : Type} (ret : Int → Option A) (a : TProof) (left : Int) : Option A :=
  chk (laws_szPoint_pre a.2.1 left) (bif (decide ((laws_szPoint_f a.2.1 left) < (0 : Int))) then (ret (-1 : Int)) else (chk (laws_szPairPoint_pre a.2.2.1 (laws_szPoint_f a.2.1 left)) (bif (decide ((laws_szPairPoint_f a.2.2.1 (laws_szPoint_f a.2.1 left)) < (0 : Int))) then (ret (-1 : Int)) else (chk (laws_szPoint_pre a.2.2.2.1 (laws_szPairPoint_f a.2.2.1 (laws_szPoint_f a.2.1 left))) ((let y1 : Int := laws_szPoint_f a.2.2.2.1 (laws_szPairPoint_f a.2.2.1 (laws_szPoint_f a.2.1 left)); bif (decide (y1 < (0 : Int))) then (ret (-1 : Int)) else (ret y1)))))))
def laws_szArtefact_s {A : Type} (ret : Int → Option A) (a : TArtefact) (left : Int) : Option A :=
  chk (laws_szPoint_pre a.2.2.1 left) (bif (decide ((laws_szPoint_f a.2.2.1 left) < (0 : Int))) then (ret (-1 : Int)) else (chk (laws_szPairPoint_pre a.2.2.2.1 (laws_szPoint_f a.2.2.1 left)) (bif (decide ((laws_szPairPoint_f a.2.2.2.1 (laws_szPoint_f a.2.2.1 left)) < (0 : Int))) then (ret (-1 : Int)) else (chk (laws_szSystem_pre a.2.2.2.2.1 (laws_szPairPoint_f a.2.2.2.1 (laws_szPoint_f a.2.2.1 left))) ((let y1 : Int := laws_szSystem_f a.2.2.2.2.1 (laws_szPairPoint_f a.2.2.2.1 (laws_szPoint_f a.2.2.1 left)); bif (decide (y1 < (0 : Int))) then (ret (-1 : Int)) else (chk (laws_szWitness_pre a.2.2.2.2.2.1 y1) (bif (decide ((laws_szWitness_f a.2.2.2.2.2.1 y1) < (0 : Int))) then (ret (-1 : Int)) else (chk (laws_szKey_pre a.2.2.2.2.2.2.1 (laws_szWitness_f a.2.2.2.2.2.1 y1)) ((let y2 : Int := laws_szKey_f a.2.2.2.2.2.2.1 (laws_szWitness_f a.2.2.2.2.2.1 y1); bif (decide (y2 < (0 : Int))) then (ret (-1 : Int)) else (chk (laws_szProof_pre a.2.2.2.2.2.2.2.1 y2) (bif (decide ((laws_szProof_f a.2.2.2.2.2.2.2.1 y2) < (0 : Int))) then (ret (-1 : Int)) else (ret (laws_szProof_f a.2.2.2.2.2.2.2.1 y2)))))))))))))))
def laws_toPoint_s {A : Type} (ret : TPoint → Option A) (a : TPoint) : Option A :=
  ret a
def laws_toPair_s {A : Type} (ret : TPair → Option A) (a : TPair) : Option A :=
  ret a
def laws_toPairPoint_s {A : Type} (ret : TPairPoint → Option A) (a : TPairPoint) : Option A :=
  (let y1 : TPair := laws_toPair_f a.2.1; (let y2 : TPair := laws_toPair_f a.2.2.1; ret (a.1, ((y1.1, (y1.2.1, ())), ((y2.1, (y2.2.1, ())), ())))))
def laws_toTerm_s {A : Type} (ret : TTerm → Option A) (a : TTerm) : Option A :=
  ret a
def laws_toTermS_t1 {A : Type} (ret : (List TTerm) → Option A) (rec1 : Int → (List TTerm) → Option A) (a : (List TTerm)) (v2 : Int) (v3 : (List TTerm)) : Option A :=
  bif (decide (v2 < (a.length : Int))) then (chk (decide (0 ≤ v2) && decide (v2 < (a.length : Int))) ((let y7 : TTerm := laws_toTerm_f (a.getD v2.toNat ((0 : Int), (([] : Str), ()))); chk (decide (0 ≤ v2) && decide (v2 < (v3.length : Int))) (rec1 (IntKind.wrap .i64 (v2 + (1 : Int))) (v3.set v2.toNat y7))))) else (ret v3)
def laws_toTermS_l1 {A : Type} (ret : (List TTerm) → Option A) (k : Nat) (a : (List TTerm)) : Nat → Int → (List TTerm) → Option A
  | 0 => fun _ _ => none
  | n + 1 => fun v2 v3 => laws_toTermS_t1 ret (laws_toTermS_l1 ret k a n) a v2 v3
def laws_toTermS_t0 {A : Type} (ret : (List TTerm) → Option A) (run1 : (List TTerm) → Int → (List TTerm) → Option A) (a : (List TTerm)) : Option A :=
  chk (decide (0 ≤ (a.length : Int)) && decide ((a.length : Int) ≤ (a.length : Int)) && decide ((a.length : Int) * 24 ≤ maxBytes)) (run1 a (0 : Int) (List.replicate (a.length : Int).toNat ((0 : Int), (([] : Str), ()))))
def laws_toTermS_s {A : Type} (ret : (List TTerm) → Option A) (k : Nat) (a : (List TTerm)) : Option A := laws_toTermS_t0 ret (fun a_ v2_ v3_ => laws_toTermS_l1 ret k a_ k v2_ v3_) a
def laws_toRow_s {A : Type} (ret : TRow → Option A) (a : TRow) : Option A :=
  chk (laws_toTermS_pre a.1) ((let y1 : (List TTerm) := laws_toTermS_f a.1; chk (laws_toTermS_pre a.2.1) ((let y2 : (List TTerm) := laws_toTermS_f a.2.1; chk (laws_toTermS_pre a.2.2.1) ((let y3 : (List TTerm) := laws_toTermS_f a.2.2.1; ret (y1, (y2, (y3, ())))))))))
def laws_toRowS_t1 {A : Type} (ret : (List TRow) → Option A) (rec1 : Int → (List TRow) → Option A) (a : (List TRow)) (v2 : Int) (v3 : (List TRow)) : Option A :=
  bif (decide (v2 < (a.length : Int))) then (chk (decide (0 ≤ v2) && decide (v2 < (a.length : Int))) (chk (laws_toRow_pre (a.getD v2.toNat (([] : (List TTerm)), (([] : (List TTerm)), (([] : (List TTerm)), ()))))) ((let y7 : TRow := laws_toRow_f (a.getD v2.toNat (([] : (List TTerm)), (([] : (List TTerm)), (([] : (List TTerm)), ())))); chk (decide (0 ≤ v2) && decide (v2 < (v3.length : Int))) (rec1 (IntKind.wrap .i64 (v2 + (1 : Int))) (v3.set v2.toNat y7)))))) else (ret v3)
def laws_toRowS_l1 {A : Type} (ret : (List TRow) → Option A) (k : Nat) (a : (List TRow)) : Nat → Int → (List TRow) → Option A
  | 0 => fun _ _ => none
  | n + 1 => fun v2 v3 => laws_toRowS_t1 ret (laws_toRowS_l1 ret k a n) a v2 v3
def laws_toRowS_t0 {A : Type} (ret : (List TRow) → Option A) (run1 : (List TRow) → Int → (List TRow) → Option A) (a : (List TRow)) : Option A :=
  chk (decide (0 ≤ (a.length : Int)) && decide ((a.length : Int) ≤ (a.length : Int)) && decide ((a.length : Int) * 72 ≤ maxBytes)) (run1 a (0 : Int) (List.replicate (a.length : Int).toNat (([] : (List TTerm)), (([] : (List TTerm)), (([] : (List TTerm)), ())))))
def laws_toRowS_s {A : Type} (ret : (List TRow) → Option A) (k : Nat) (a : (List TRow)) : Option A := laws_toRowS_t0 ret (fun a_ v2_ v3_ => laws_toRowS_l1 ret k a_ k v2_ v3_) a
def laws_toSystem_s {A : Type} (ret : TSystem → Option A) (a : TSystem) : Option A :=
  chk (laws_toIntS_pre a.2.2.2.2.2.1) ((let y1 : (List Int) := laws_toIntS_f a.2.2.2.2.2.1; chk (laws_toRowS_pre a.2.2.2.2.2.2.1) ((let y2 : (List TRow) := laws_toRowS_f a.2.2.2.2.2.2.1; ret (a.1, (a.2.1, (a.2.2.1, (a.2.2.2.1, (a.2.2.2.2.1, (y1, (y2, ())))))))))))
def laws_toWitness_s {A : Type} (ret : TWitness → Option A) (a : TWitness) : Option A :=
  chk (laws_toStringS_pre a.2.1) ((let y1 : (List Str) := laws_toStringS_f a.2.1; ret (a.1, (y1, ()))))
def laws_toPointS_t1 {A : Type} (ret : (List TPoint) → Option A) (rec1 : Int → (List TPoint) → Option A) (a : (List TPoint)) (v2 : Int) (v3 : (List TPoint)) : Option A :=
  bif (decide (v2 < (a.length : Int))) then (chk (decide (0 ≤ v2) && decide (v2 < (a.length : Int))) ((let y7 : TPoint := laws_toPoint_f (a.getD v2.toNat (false, (([] : Str), (([] : Str), ())))); chk (decide (0 ≤ v2) && decide (v2 < (v3.length : Int))) (rec1 (IntKind.wrap .i64 (v2 + (1 : Int))) (v3.set v2.toNat y7))))) else (ret v3)
def laws_toPointS_l1 {A : Type} (ret : (List TPoint) → Option A) (k : Nat) (a : (List TPoint)) : Nat → Int → (List TPoint) → Option A
  | 0 => fun _ _ => none
  | n + 1 => fun v2 v3 => laws_toPointS_t1 ret (laws_toPointS_l1 ret k a n) a v2 v3
def laws_toPointS_t0 {A : Type} (ret : (List TPoint) → Option A) (run1 : (List TPoint) → Int → (List TPoint) → Option A) (a : (List TPoint)) : Option A :=
  chk (decide (0 ≤ (a.length : Int)) && decide ((a.length : Int) ≤ (a.length : Int)) && decide ((a.length : Int) * 40 ≤ maxBytes)) (run1 a (0 : Int) (List.replicate (a.length : Int).toNat (false, (([] : Str), (([] : Str), ())))))
def laws_toPointS_s {A : Type} (ret : (List TPoint) → Option A) (k : Nat) (a : (List TPoint)) : Option A := laws_toPointS_t0 ret (fun a_ v2_ v3_ => laws_toPointS_l1 ret k a_ k v2_ v3_) a
def laws_toKey_s {A : Type} (ret : TKey → Option A) (a : TKey) : Option A :=
  (let y1 : TPoint := laws_toPoint_f a.2.1; (let y2 : TPairPoint := laws_toPairPoint_f a.2.2.1; (let y3 : TPairPoint := laws_toPairPoint_f a.2.2.2.1; (let y4 : TPairPoint := laws_toPairPoint_f a.2.2.2.2.1; chk (laws_toPointS_pre a.2.2.2.2.2.1) ((let y5 : (List TPoint) := laws_toPointS_f a.2.2.2.2.2.1; ret (a.1, ((y1.1, (y1.2.1, (y1.2.2.1, ()))), ((y2.1, ((y2.2.1.1, (y2.2.1.2.1, ())), ((y2.2.2.1.1, (y2.2.2.1.2.1, ())), ()))), ((y3.1, ((y3.2.1.1, (y3.2.1.2.1, ())), ((y3.2.2.1.1, (y3.2.2.1.2.1, ())), ()))), ((y4.1, ((y4.2.1.1, (y4.2.1.2.1, ())), ((y4.2.2.1.1, (y4.2.2.1.2.1, ())), ()))), (y5, ()))))))))))))
def laws_toProof_s {A : Type} (ret : TProof → Option A) (a : TProof) : Option A :=
  (let y1 : TPoint := laws_toPoint_f a.2.1; (let y2 : TPairPoint := laws_toPairPoint_f a.2.2.1; (let y3 : TPoint := laws_toPoint_f a.2.2.2.1; ret (a.1, ((y1.1, (y1.2.1, (y1.2.2.1, ()))), ((y2.1, ((y2.2.1.1, (y2.2.1.2.1, ())), ((y2.2.2.1.1, (y2.2.2.1.2.1, ())), ()))), ((y3.1, (y3.2.1, (y3.2.2.1, ()))), ())))))))
def laws_toArtefact_s {A : Type} (ret : TArtefact → Option A) (a : TArtefact) : Option A :=
  (let y1 : TPoint := laws_toPoint_f a.2.2.1; (let y2 : TPairPoint := laws_toPairPoint_f a.2.2.2.1; chk (laws_toSystem_pre a.2.2.2.2.1) ((let y3 : TSystem := laws_toSystem_f a.2.2.2.2.1; chk (laws_toWitness_pre a.2.2.2.2.2.1) ((let y4 : TWitness := laws_toWitness_f a.2.2.2.2.2.1; chk (laws_toKey_pre a.2.2.2.2.2.2.1) ((let y5 : TKey := laws_toKey_f a.2.2.2.2.2.2.1; (let y6 : TProof := laws_toProof_f a.2.2.2.2.2.2.2.1; ret (a.1, (a.2.1, ((y1.1, (y1.2.1, (y1.2.2.1, ()))), ((y2.1, ((y2.2.1.1, (y2.2.1.2.1, ())), ((y2.2.2.1.1, (y2.2.2.1.2.1, ())), ()))), ((y3.1, (y3.2.1, (y3.2.2.1, (y3.2.2.2.1, (y3.2.2.2.2.1, (y3.2.2.2.2.2.1, (y3.2.2.2.2.2.2.1, ()))))))), ((y4.1, (y4.2.1, ())), ((y5.1, ((y5.2.1.1, (y5.2.1.2.1, (y5.2.1.2.2.1, ()))), ((y5.2.2.1.1, ((y5.2.2.1.2.1.1, (y5.2.2.1.2.1.2.1, ())), ((y5.2.2.1.2.2.1.1, (y5.2.2.1.2.2.1.2.1, ())), ()))), ((y5.2.2.2.1.1, ((y5.2.2.2.1.2.1.1, (y5.2.2.2.1.2.1.2.1, ())), ((y5.2.2.2.1.2.2.1.1, (y5.2.2.2.1.2.2.1.2.1, ())), ()))), ((y5.2.2.2.2.1.1, ((y5.2.2.2.2.1.2.1.1, (y5.2.2.2.2.1.2.1.2.1, ())), ((y5.2.2.2.2.1.2.2.1.1, (y5.2.2.2.2.1.2.2.1.2.1, ())), ()))), (y5.2.2.2.2.2.1, ())))))), ((y6.1, ((y6.2.1.1, (y6.2.1.2.1, (y6.2.1.2.2.1, ()))), ((y6.2.2.1.1, ((y6.2.2.1.2.1.1, (y6.2.2.1.2.1.2.1, ())), ((y6.2.2.1.2.2.1.1, (y6.2.2.1.2.2.1.2.1, ())), ()))), ((y6.2.2.2.1.1, (y6.2.2.2.1.2.1, (y6.2.2.2.1.2.2.1, ()))), ())))), ())))))))))))))))))
def spec_CurveIn_j1 {A : Type} (ret : Int → Option A) (a : TArtefact) (v1 : Bool) : Option A :=
  bif v1 then (ret a.2.1) else (bif (a.1 == (5 : Int)) then (ret a.2.2.2.2.1.1) else (bif (a.1 == (6 : Int)) then (ret a.2.2.2.2.2.1.1) else (bif (a.1 == (7 : Int)) then (ret a.2.2.2.2.2.2.1.1) else (bif (a.1 == (8 : Int)) then (ret a.2.2.2.2.2.2.2.1.1) else (bif (a.1 == (9 : Int)) then (ret a.2.2.2.2.2.2.2.1.1) else (ret (0 : Int)))))))
def spec_CurveIn_s {A : Type} (ret : Int → Option A) (a : TArtefact) : Option A :=
  bif (a.1 == (1 : Int)) then (spec_CurveIn_j1 ret a true) else (bif (a.1 == (2 : Int)) then (spec_CurveIn_j1 ret a true) else (bif (a.1 == (3 : Int)) then (spec_CurveIn_j1 ret a true) else (spec_CurveIn_j1 ret a (a.1 == (4 : Int)))))
def impl_CurveIn_j1 {A : Type} (ret : Int → Option A) (a : TArtefact) (v1 : Bool) : Option A :=
  bif v1 then (ret a.2.1) else (bif (a.1 == (5 : Int)) then (ret a.2.2.2.2.1.1) else (bif (a.1 == (6 : Int)) then (ret a.2.2.2.2.2.1.1) else (bif (a.1 == (7 : Int)) then (ret a.2.2.2.2.2.2.1.1) else (bif (a.1 == (8 : Int)) then (ret a.2.2.2.2.2.2.2.1.1) else (bif (a.1 == (9 : Int)) then (ret a.2.2.2.2.2.2.2.1.1) else (ret (0 : Int)))))))
def impl_CurveIn_s {A : Type} (ret : Int → Option A) (a : TArtefact) : Option A :=
  bif (a.1 == (1 : Int)) then (impl_CurveIn_j1 ret a true) else (bif (a.1 == (2 : Int)) then (impl_CurveIn_j1 ret a true) else (bif (a.1 == (3 : Int)) then (impl_CurveIn_j1 ret a true) else (impl_CurveIn_j1 ret a (a.1 == (4 : Int)))))
def laws_eqPoint_s {A : Type} (ret : Bool → Option A) (a : TPoint) (b : TPoint) : Option A :=
  bif (!(a.1 == b.1)) then (ret false) else (bif (!(a.2.1 == b.2.1)) then (ret false) else (bif (!(a.2.2.1 == b.2.2.1)) then (ret false) else (ret true)))
def laws_eqPair_s {A : Type} (ret : Bool → Option A) (a : TPair) (b : TPair) : Option A :=
  bif (!(a.1 == b.1)) then (ret false) else (bif (!(a.2.1 == b.2.1)) then (ret false) else (ret true))
def laws_eqPairPoint_s {A : Type} (ret : Bool → Option A) (a : TPairPoint) (b : TPairPoint) : Option A :=
  bif (!(a.1 == b.1)) then (ret false) else (bif (!(laws_eqPair_f a.2.1 b.2.1)) then (ret false) else (bif (!(laws_eqPair_f a.2.2.1 b.2.2.1)) then (ret false) else (ret true)))
def laws_eqTerm_s {A : Type} (ret : Bool → Option A) (a : TTerm) (b : TTerm) : Option A :=
  bif (a.1 != b.1) then (ret false) else (bif (!(a.2.1 == b.2.1)) then (ret false) else (ret true))
def laws_eqTermS_t1 {A : Type} (ret : Bool → Option A) (rec1 : Int → Option A) (a : (List TTerm)) (b : (List TTerm)) (v2 : Int) : Option A :=
  bif (decide (v2 < (a.length : Int))) then (chk (decide (0 ≤ v2) && decide (v2 < (a.length : Int))) (chk (decide (0 ≤ v2) && decide (v2 < (b.length : Int))) ((let y5 : Bool := laws_eqTerm_f (a.getD v2.toNat ((0 : Int), (([] : Str), ()))) (b.getD v2.toNat ((0 : Int), (([] : Str), ()))); bif (!y5) then (ret false) else (rec1 (IntKind.wrap .i64 (v2 + (1 : Int)))))))) else (ret true)
def laws_eqTermS_l1 {A : Type} (ret : Bool → Option A) (k : Nat) (a : (List TTerm)) (b : (List TTerm)) : Nat → Int → Option A
  | 0 => fun _ => none
  | n + 1 => fun v2 => laws_eqTermS_t1 ret (laws_eqTermS_l1 ret k a b n) a b v2
def laws_eqTermS_t0 {A : Type} (ret : Bool → Option A) (run1 : (List TTerm) → (List TTerm) → Int → Option A) (a : (List TTerm)) (b : (List TTerm)) : Option A :=
  bif ((a.length : Int) != (b.length : Int)) then (ret false) else (run1 a b (0 : Int))
def laws_eqTermS_s {A : Type} (ret : Bool → Option A) (k : Nat) (a : (List TTerm)) (b : (List TTerm)) : Option A := laws_eqTermS_t0 ret (fun a_ b_ v2_ => laws_eqTermS_l1 ret k a_ b_ k v2_) a b
def laws_eqRow_s {A : Type} (ret : Bool → Option A) (a : TRow) (b : TRow) : Option A :=
  chk (laws_eqTermS_pre a.1 b.1) (bif (!(laws_eqTermS_f a.1 b.1)) then (ret false) else (chk (laws_eqTermS_pre a.2.1 b.2.1) (bif (!(laws_eqTermS_f a.2.1 b.2.1)) then (ret false) else (chk (laws_eqTermS_pre a.2.2.1 b.2.2.1) (bif (!(laws_eqTermS_f a.2.2.1 b.2.2.1)) then (ret false) else (ret true))))))
def laws_eqRowS_t1 {A : Type} (ret : Bool → Option A) (rec1 : Int → Option A) (a : (List TRow)) (b : (List TRow)) (v2 : Int) : Option A :=
  bif (decide (v2 < (a.length : Int))) then (chk (decide (0 ≤ v2) && decide (v2 < (a.length : Int))) (chk (decide (0 ≤ v2) && decide (v2 < (b.length : Int))) (chk (laws_eqRow_pre (a.getD v2.toNat (([] : (List TTerm)), (([] : (List TTerm)), (([] : (List TTerm)), ())))) (b.getD v2.toNat (([] : (List TTerm)), (([] : (List TTerm)), (([] : (List TTerm)), ()))))) ((let y5 : Bool := laws_eqRow_f (a.getD v2.toNat (([] : (List TTerm)), (([] : (List TTerm)), (([] : (List TTerm)), ())))) (b.getD v2.toNat (([] : (List TTerm)), (([] : (List TTerm)), (([] : (List TTerm)), ())))); bif (!y5) then (ret false) else (rec1 (IntKind.wrap .i64 (v2 + (1 : Int))))))))) else (ret true)
def laws_eqRowS_l1 {A : Type} (ret : Bool → Option A) (k : Nat) (a : (List TRow)) (b : (List TRow)) : Nat → Int → Option A
  | 0 => fun _ => none
  | n + 1 => fun v2 => laws_eqRowS_t1 ret (laws_eqRowS_l1 ret k a b n) a b v2
def laws_eqRowS_t0 {A : Type} (ret : Bool → Option A) (run1 : (List TRow) → (List TRow) → Int → Option A) (a : (List TRow)) (b : (List TRow)) : Option A :=
  bif ((a.length : Int) != (b.length : Int)) then (ret false) else (run1 a b (0 : Int))
def laws_eqRowS_s {A : Type} (ret : Bool → Option A) (k : Nat) (a : (List TRow)) (b : (List TRow)) : Option A := laws_eqRowS_t0 ret (fun a_ b_ v2_ => laws_eqRowS_l1 ret k a_ b_ k v2_) a b
def laws_eqSystem_s {A : Type} (ret : Bool → Option A) (a : TSystem) (b : TSystem) : Option A :=
  bif (a.1 != b.1) then (ret false) else (bif (a.2.1 != b.2.1) then (ret false) else (bif (a.2.2.1 != b.2.2.1) then (ret false) else (bif (a.2.2.2.1 != b.2.2.2.1) then (ret false) else (bif (a.2.2.2.2.1 != b.2.2.2.2.1) then (ret false) else (chk (laws_eqIntS_pre a.2.2.2.2.2.1 b.2.2.2.2.2.1) (bif (!(laws_eqIntS_f a.2.2.2.2.2.1 b.2.2.2.2.2.1)) then (ret false) else (chk (laws_eqRowS_pre a.2.2.2.2.2.2.1 b.2.2.2.2.2.2.1) (bif (!(laws_eqRowS_f a.2.2.2.2.2.2.1 b.2.2.2.2.2.2.1)) then (ret false) else (ret true)))))))))
def laws_eqWitness_s {A : Type} (ret : Bool → Option A) (a : TWitness) (b : TWitness) : Option A :=
  bif (a.1 != b.1) then (ret false) else (chk (laws_eqStringS_pre a.2.1 b.2.1) (bif (!(laws_eqStringS_f a.2.1 b.2.1)) then (ret false) else (ret true)))
def laws_eqPointS_t1 {A : Type} (ret : Bool → Option A) (rec1 : Int → Option A) (a : (List TPoint)) (b : (List TPoint)) (v2 : Int) : Option A :=
  bif (decide (v2 < (a.length : Int))) then (chk (decide (0 ≤ v2) && decide (v2 < (a.length : Int))) (chk (decide (0 ≤ v2) && decide (v2 < (b.length : Int))) ((let y5 : Bool := laws_eqPoint_f (a.getD v2.toNat (false, (([] : Str), (([] : Str), ())))) (b.getD v2.toNat (false, (([] : Str), (([] : Str), ())))); bif (!y5) then (ret false) else (rec1 (IntKind.wrap .i64 (v2 + (1 : Int)))))))) else (ret true)
def laws_eqPointS_l1 {A : Type} (ret : Bool → Option A) (k : Nat) (a : (List TPoint)) (b : (List TPoint)) : Nat → Int → Option A
  | 0 => fun _ => none
  | n + 1 => fun v2 => laws_eqPointS_t1 ret (laws_eqPointS_l1 ret k a b n) a b v2
def laws_eqPointS_t0 {A : Type} (ret : Bool → Option A) (run1 : (List TPoint) → (List TPoint) → Int → Option A) (a : (List TPoint)) (b : (List TPoint)) : Option A :=
  bif ((a.length : Int) != (b.length : Int)) then (ret false) else (run1 a b (0 : Int))
def laws_eqPointS_s {A : Type} (ret : Bool → Option A) (k : Nat) (a : (List TPoint)) (b : (List TPoint)) : Option A := laws_eqPointS_t0 ret (fun a_ b_ v2_ => laws_eqPointS_l1 ret k a_ b_ k v2_) a b
def laws_eqKey_s {A : Type} (ret : Bool → Option A) (a : TKey) (b : TKey) : Option A :=
  bif (a.1 != b.1) then (ret false) else (bif (!(laws_eqPoint_f a.2.1 b.2.1)) then (ret false) else (bif (!(laws_eqPairPoint_f a.2.2.1 b.2.2.1)) then (ret false) else (bif (!(laws_eqPairPoint_f a.2.2.2.1 b.2.2.2.1)) then (ret false) else (bif (!(laws_eqPairPoint_f a.2.2.2.2.1 b.2.2.2.2.1)) then (ret false) else (chk (laws_eqPointS_pre a.2.2.2.2.2.1 b.2.2.2.2.2.1) (bif (!(laws_eqPointS_f a.2.2.2.2.2.1 b.2.2.2.2.2.1)) then (ret false) else (ret true)))))))
def laws_eqProof_s {A : Type} (ret : Bool → Option A) (a : TProof) (b : TProof) : Option A :=
  bif (a.1 != b.1) then (ret false) else (bif (!(laws_eqPoint_f a.2.1 b.2.1)) then (ret false) else (bif (!(laws_eqPairPoint_f a.2.2.1 b.2.2.1)) then (ret false) else (bif (!(laws_eqPoint_f a.2.2.2.1 b.2.2.2.1)) then (ret false) else (ret true))))
def laws_eqArtefact_s {A : Type} (ret : Bool → Option A) (a : TArtefact) (b : TArtefact) : Option A :=
  bif (a.1 != b.1) then (ret false) else (bif (a.2.1 != b.2.1) then (ret false) else (bif (!(laws_eqPoint_f a.2.2.1 b.2.2.1)) then (ret false) else (bif (!(laws_eqPairPoint_f a.2.2.2.1 b.2.2.2.1)) then (ret false) else (chk (laws_eqSystem_pre a.2.2.2.2.1 b.2.2.2.2.1) (bif (!(laws_eqSystem_f a.2.2.2.2.1 b.2.2.2.2.1)) then (ret false) else (chk (laws_eqWitness_pre a.2.2.2.2.2.1 b.2.2.2.2.2.1) (bif (!(laws_eqWitness_f a.2.2.2.2.2.1 b.2.2.2.2.2.1)) then (ret false) else (chk (laws_eqKey_pre a.2.2.2.2.2.2.1 b.2.2.2.2.2.2.1) (bif (!(laws_eqKey_f a.2.2.2.2.2.2.1 b.2.2.2.2.2.2.1)) then (ret false) else (bif (!(laws_eqProof_f a.2.2.2.2.2.2.2.1 b.2.2.2.2.2.2.2.1)) then (ret false) else (ret true)))))))))))
def laws_FnExactCurveIn_s {A : Type} (ret : Bool → Option A) (aA : TArtefact) : Option A :=
  chk (laws_szArtefact_pre aA (1048576 : Int)) (bif (decide ((laws_szArtefact_f aA (1048576 : Int)) < (0 : Int))) then (ret true) else (chk (laws_toArtefact_pre aA) ((let y1 : TArtefact := laws_toArtefact_f aA; chk (laws_toArtefact_pre aA) ((let y2 : TArtefact := laws_toArtefact_f aA; bif ((impl_CurveIn_f y2) != (spec_CurveIn_f y1)) then (ret false) else (chk (laws_toArtefact_pre aA) ((let y3 : TArtefact := laws_toArtefact_f aA; chk (laws_eqArtefact_pre y2 y3) (bif (!(laws_eqArtefact_f y2 y3)) then (ret false) else (ret true)))))))))))
theorem laws_toIntS_law {A : Type} (ret : _ → Option A) (x) (h : laws_toIntS_pre x = true) : laws_toIntS_s ret (laws_toIntS_k x) x = ret (laws_toIntS_f x) := by
  simp only [laws_toIntS_pre, decide_eq_true_eq] at h
  have hx := len_le_w x
  unfold laws_toIntS_s laws_toIntS_t0 laws_toIntS_f
  rw [chk_pos (mk_ok (by omega) (by omega)), Int.toNat_natCast]
  refine (map_loop0 (ret := ret) (L := laws_toIntS_l1 ret (laws_toIntS_k x) x) (a := x) (fun z => z) _ (fun n i ys hi hy => ?_) (fun n ys => ?_) (by unfold laws_toIntS_k; omega)).trans (congrArg ret (List.map_id' x))
  · show laws_toIntS_t1 _ _ _ _ _ = _
    unfold laws_toIntS_t1
    rw [bif_pos (by omega), chk_pos (inb_pos hi), getD_at hi]
    simp only [Int.toNat_natCast]
    rw [chk_pos (inb_pos (by omega)), w64_id (by omega) (by omega)]
    rfl
  · show laws_toIntS_t1 _ _ _ _ _ = _
    unfold laws_toIntS_t1
    rw [bif_neg (by omega)]
theorem laws_eqStringS_law {A : Type} (ret : Bool → Option A) (x y) (h : laws_eqStringS_pre x y = true) : laws_eqStringS_s ret (laws_eqStringS_k x y) x y = ret (laws_eqStringS_f x y) := by
  simp only [laws_eqStringS_pre, decide_eq_true_eq] at h
  have hx := len_le_w x
  unfold laws_eqStringS_s laws_eqStringS_t0 laws_eqStringS_f
  by_cases hl : x.length = y.length
  · rw [show ((x.length : Int) != (y.length : Int)) = false by simp [hl], cond_false]
    refine eq_loop0 (L := laws_eqStringS_l1 ret (laws_eqStringS_k x y) x y) hl (fun n i hi => ?_) (fun n => ?_) (by unfold laws_eqStringS_k; omega)
    · have hy : i < y.length := by omega
      show laws_eqStringS_t1 _ _ _ _ _ = _
      unfold laws_eqStringS_t1
      rw [bif_pos (by omega), chk_pos (inb_pos hi), chk_pos (inb_pos hy), getD_at hi, getD_at hy]
      rw [w64_id (by omega) (by omega)]
      grind
    · show laws_eqStringS_t1 _ _ _ _ _ = _
      unfold laws_eqStringS_t1
      rw [bif_neg (by omega)]
  · rw [show ((x.length : Int) != (y.length : Int)) = true by simp; omega, cond_true]
    congr 1
    simp only [Bool.false_eq, decide_eq_false_iff_not]
    exact fun e => hl (by rw [e])
theorem laws_eqIntS_law {A : Type} (ret : Bool → Option A) (x y) (h : laws_eqIntS_pre x y = true) : laws_eqIntS_s ret (laws_eqIntS_k x y) x y = ret (laws_eqIntS_f x y) := by
  simp only [laws_eqIntS_pre, decide_eq_true_eq] at h
  have hx := len_le_w x
  unfold laws_eqIntS_s laws_eqIntS_t0 laws_eqIntS_f
  by_cases hl : x.length = y.length
  · rw [show ((x.length : Int) != (y.length : Int)) = false by simp [hl], cond_false]
    refine eq_loop0 (L := laws_eqIntS_l1 ret (laws_eqIntS_k x y) x y) hl (fun n i hi => ?_) (fun n => ?_) (by unfold laws_eqIntS_k; omega)
    · have hy : i < y.length := by omega
      show laws_eqIntS_t1 _ _ _ _ _ = _
      unfold laws_eqIntS_t1
      rw [bif_pos (by omega), chk_pos (inb_pos hi), chk_pos (inb_pos hy), getD_at hi, getD_at hy]
      rw [w64_id (by omega) (by omega)]
      grind
    · show laws_eqIntS_t1 _ _ _ _ _ = _
      unfold laws_eqIntS_t1
      rw [bif_neg (by omega)]
  · rw [show ((x.length : Int) != (y.length : Int)) = true by simp; omega, cond_true]
    congr 1
    simp only [Bool.false_eq, decide_eq_false_iff_not]
    exact fun e => hl (by rw [e])
theorem laws_szStringS_law {A : Type} (ret : Int → Option A) (x l) (h : laws_szStringS_pre x l = true) : laws_szStringS_s ret (laws_szStringS_k x l) x l = ret (laws_szStringS_f x l) := by
  simp only [laws_szStringS_pre, Bool.and_eq_true, szR_iff, fit_sl, decide_eq_true_eq, List.all_eq_true] at h
  obtain ⟨⟨hx, he⟩, hl0, hl1⟩ := h
  unfold laws_szStringS_s laws_szStringS_t0 laws_szStringS_f
  rw [w64_id (by omega) (by omega)]
  refine sz_loop0 (L := laws_szStringS_l1 ret (laws_szStringS_k x l) x) (fun n i v hi hv => ?_) (fun n v => ?_) hl0 hl1 (by unfold laws_szStringS_k; omega)
  · rw [szR_iff] at hv
    have hm := he x[i] (List.getElem_mem _)
    show laws_szStringS_t1 _ _ _ _ _ = _
    unfold laws_szStringS_t1
    rw [bif_pos (by omega), chk_pos (inb_pos hi), getD_at hi]
    rw [fit_str, decide_eq_true_eq] at hm
    rw [w64_id (n := v - _) (by omega) (by omega), w64_id (n := (i : Int) + 1) (by omega) (by omega), w_str]
    simp only [bif_ite]
    grind
  · show laws_szStringS_t1 _ _ _ _ _ = _
    unfold laws_szStringS_t1
    rw [bif_neg (by omega)]
theorem laws_toStringS_law {A : Type} (ret : _ → Option A) (x) (h : laws_toStringS_pre x = true) : laws_toStringS_s ret (laws_toStringS_k x) x = ret (laws_toStringS_f x) := by
  simp only [laws_toStringS_pre, decide_eq_true_eq] at h
  have hx := len_le_w x
  unfold laws_toStringS_s laws_toStringS_t0 laws_toStringS_f
  rw [chk_pos (mk_ok (by omega) (by omega)), Int.toNat_natCast]
  refine (map_loop0 (ret := ret) (L := laws_toStringS_l1 ret (laws_toStringS_k x) x) (a := x) (fun z => z) _ (fun n i ys hi hy => ?_) (fun n ys => ?_) (by unfold laws_toStringS_k; omega)).trans (congrArg ret (List.map_id' x))
  · show laws_toStringS_t1 _ _ _ _ _ = _
    unfold laws_toStringS_t1
    rw [bif_pos (by omega), chk_pos (inb_pos hi), getD_at hi]
    simp only [Int.toNat_natCast]
    rw [chk_pos (inb_pos (by omega)), w64_id (by omega) (by omega)]
    rfl
  · show laws_toStringS_t1 _ _ _ _ _ = _
    unfold laws_toStringS_t1
    rw [bif_neg (by omega)]
theorem laws_szPoint_law {A : Type} (ret : Int → Option A) (x l) (h : laws_szPoint_pre x l = true) : laws_szPoint_s ret x l = ret (laws_szPoint_f x l) := by
  obtain ⟨x1, x2, x3, ⟨⟩⟩ := x
  simp only [laws_szPoint_pre, Bool.and_eq_true, szR_iff] at h
  obtain ⟨h, hl⟩ := h
  obtain ⟨f1, h⟩ := fitp h; obtain ⟨f2, h⟩ := fitp h; obtain ⟨f3, h⟩ := fitp h
  simp only [fit_str, decide_eq_true_eq] at f1 f2 f3
  unfold laws_szPoint_s laws_szPoint_f
  simp only [chk_ite, bif_ite, Bool.and_eq_true, szR_iff, szF, w_pair, w_int, w_bool, w_unit, w_str]
  grind [w64_id]
theorem laws_szPair_law {A : Type} (ret : Int → Option A) (x l) (h : laws_szPair_pre x l = true) : laws_szPair_s ret x l = ret (laws_szPair_f x l) := by
  obtain ⟨x1, x2, ⟨⟩⟩ := x
  simp only [laws_szPair_pre, Bool.and_eq_true, szR_iff] at h
  obtain ⟨h, hl⟩ := h
  obtain ⟨f1, h⟩ := fitp h; obtain ⟨f2, h⟩ := fitp h
  simp only [fit_str, decide_eq_true_eq] at f1 f2
  unfold laws_szPair_s laws_szPair_f
  simp only [chk_ite, bif_ite, Bool.and_eq_true, szR_iff, szF, w_pair, w_int, w_bool, w_unit, w_str]
  grind [w64_id]
theorem laws_szPairPoint_law {A : Type} (ret : Int → Option A) (x l) (h : laws_szPairPoint_pre x l = true) : laws_szPairPoint_s ret x l = ret (laws_szPairPoint_f x l) := by
  obtain ⟨x1, x2, x3, ⟨⟩⟩ := x
  simp only [laws_szPairPoint_pre, Bool.and_eq_true, szR_iff] at h
  obtain ⟨h, hl⟩ := h
  obtain ⟨f1, h⟩ := fitp h; obtain ⟨f2, h⟩ := fitp h; obtain ⟨f3, h⟩ := fitp h
  unfold laws_szPairPoint_s laws_szPairPoint_f
  simp only [laws_szPair_f, laws_szPair_pre, chk_ite, bif_ite, Bool.and_eq_true, szR_iff, szF, w_pair, w_int, w_bool, w_unit, w_str]
  grind
theorem laws_szIntS_law {A : Type} (ret : Int → Option A) (x l) (h : laws_szIntS_pre x l = true) : laws_szIntS_s ret x l = ret (laws_szIntS_f x l) := by
  simp only [laws_szIntS_pre, Bool.and_eq_true, szR_iff, fit_sl, decide_eq_true_eq, List.all_eq_true] at h
  obtain ⟨⟨hx, he⟩, hl0, hl1⟩ := h
  unfold laws_szIntS_s laws_szIntS_f szF
  rw [w64_id (by omega) (by omega), w_ints]
  simp only [bif_ite]
  grind
theorem laws_szTerm_law {A : Type} (ret : Int → Option A) (x l) (h : laws_szTerm_pre x l = true) : laws_szTerm_s ret x l = ret (laws_szTerm_f x l) := by
  obtain ⟨x1, x2, ⟨⟩⟩ := x
  simp only [laws_szTerm_pre, Bool.and_eq_true, szR_iff] at h
  obtain ⟨h, hl⟩ := h
  obtain ⟨f1, h⟩ := fitp h; obtain ⟨f2, h⟩ := fitp h
  simp only [fit_str, decide_eq_true_eq] at f1 f2
  unfold laws_szTerm_s laws_szTerm_f
  simp only [chk_ite, bif_ite, Bool.and_eq_true, szR_iff, szF, w_pair, w_int, w_bool, w_unit, w_str]
  grind [w64_id]
theorem laws_szTermS_law {A : Type} (ret : Int → Option A) (x l) (h : laws_szTermS_pre x l = true) : laws_szTermS_s ret (laws_szTermS_k x l) x l = ret (laws_szTermS_f x l) := by
  simp only [laws_szTermS_pre, Bool.and_eq_true, szR_iff, fit_sl, decide_eq_true_eq, List.all_eq_true] at h
  obtain ⟨⟨hx, he⟩, hl0, hl1⟩ := h
  unfold laws_szTermS_s laws_szTermS_t0 laws_szTermS_f
  rw [w64_id (by omega) (by omega)]
  refine sz_loop0 (L := laws_szTermS_l1 ret (laws_szTermS_k x l) x) (fun n i v hi hv => ?_) (fun n v => ?_) hl0 hl1 (by unfold laws_szTermS_k; omega)
  · rw [szR_iff] at hv
    have hm := he x[i] (List.getElem_mem _)
    show laws_szTermS_t1 _ _ _ _ _ = _
    unfold laws_szTermS_t1
    rw [bif_pos (by omega), chk_pos (inb_pos hi), getD_at hi]
    have hp : laws_szTerm_pre x[i] v = true := by simp only [laws_szTerm_pre, Bool.and_eq_true]; exact ⟨hm, szR_iff.2 hv⟩
    simp only [hp, chk_tt, laws_szTerm_f, bif_ite]
    rw [w64_id (by omega) (by omega)]
    unfold szF
    grind
  · show laws_szTermS_t1 _ _ _ _ _ = _
    unfold laws_szTermS_t1
    rw [bif_neg (by omega)]
theorem laws_szRow_law {A : Type} (ret : Int → Option A) (x l) (h : laws_szRow_pre x l = true) : laws_szRow_s ret x l = ret (laws_szRow_f x l) := by
  obtain ⟨x1, x2, x3, ⟨⟩⟩ := x
  simp only [laws_szRow_pre, Bool.and_eq_true, szR_iff] at h
  obtain ⟨h, hl⟩ := h
  obtain ⟨f1, h⟩ := fitp h; obtain ⟨f2, h⟩ := fitp h; obtain ⟨f3, h⟩ := fitp h
  unfold laws_szRow_s laws_szRow_f
  simp only [laws_szTermS_f, laws_szTermS_pre, chk_ite, bif_ite, Bool.and_eq_true, szR_iff, szF, w_pair, w_int, w_bool, w_unit, w_str]
  grind
theorem laws_szRowS_law {A : Type} (ret : Int → Option A) (x l) (h : laws_szRowS_pre x l = true) : laws_szRowS_s ret (laws_szRowS_k x l) x l = ret (laws_szRowS_f x l) := by
  simp only [laws_szRowS_pre, Bool.and_eq_true, szR_iff, fit_sl, decide_eq_true_eq, List.all_eq_true] at h
  obtain ⟨⟨hx, he⟩, hl0, hl1⟩ := h
  unfold laws_szRowS_s laws_szRowS_t0 laws_szRowS_f
  rw [w64_id (by omega) (by omega)]
  refine sz_loop0 (L := laws_szRowS_l1 ret (laws_szRowS_k x l) x) (fun n i v hi hv => ?_) (fun n v => ?_) hl0 hl1 (by unfold laws_szRowS_k; omega)
  · rw [szR_iff] at hv
    have hm := he x[i] (List.getElem_mem _)
    show laws_szRowS_t1 _ _ _ _ _ = _
    unfold laws_szRowS_t1
    rw [bif_pos (by omega), chk_pos (inb_pos hi), getD_at hi]
    have hp : laws_szRow_pre x[i] v = true := by simp only [laws_szRow_pre, Bool.and_eq_true]; exact ⟨hm, szR_iff.2 hv⟩
    simp only [hp, chk_tt, laws_szRow_f, bif_ite]
    rw [w64_id (by omega) (by omega)]
    unfold szF
    grind
  · show laws_szRowS_t1 _ _ _ _ _ = _
    unfold laws_szRowS_t1
    rw [bif_neg (by omega)]
theorem laws_szSystem_law {A : Type} (ret : Int → Option A) (x l) (h : laws_szSystem_pre x l = true) : laws_szSystem_s ret x l = ret (laws_szSystem_f x l) := by
  obtain ⟨x1, x2, x3, x4, x5, x6, x7, ⟨⟩⟩ := x
  simp only [laws_szSystem_pre, Bool.and_eq_true, szR_iff] at h
  obtain ⟨h, hl⟩ := h
  obtain ⟨f1, h⟩ := fitp h; obtain ⟨f2, h⟩ := fitp h; obtain ⟨f3, h⟩ := fitp h; obtain ⟨f4, h⟩ := fitp h; obtain ⟨f5, h⟩ := fitp h; obtain ⟨f6, h⟩ := fitp h; obtain ⟨f7, h⟩ := fitp h
  unfold laws_szSystem_s laws_szSystem_f
  simp only [laws_szIntS_f, laws_szIntS_pre, laws_szRowS_f, laws_szRowS_pre, chk_ite, bif_ite, Bool.and_eq_true, szR_iff, szF, w_pair, w_int, w_bool, w_unit, w_str]
  grind
theorem laws_szWitness_law {A : Type} (ret : Int → Option A) (x l) (h : laws_szWitness_pre x l = true) : laws_szWitness_s ret x l = ret (laws_szWitness_f x l) := by
  obtain ⟨x1, x2, ⟨⟩⟩ := x
  simp only [laws_szWitness_pre, Bool.and_eq_true, szR_iff] at h
  obtain ⟨h, hl⟩ := h
  obtain ⟨f1, h⟩ := fitp h; obtain ⟨f2, h⟩ := fitp h
  unfold laws_szWitness_s laws_szWitness_f
  simp only [laws_szStringS_f, laws_szStringS_pre, chk_ite, bif_ite, Bool.and_eq_true, szR_iff, szF, w_pair, w_int, w_bool, w_unit, w_str]
  grind
theorem laws_szPointS_law {A : Type} (ret : Int → Option A) (x l) (h : laws_szPointS_pre x l = true) : laws_szPointS_s ret (laws_szPointS_k x l) x l = ret (laws_szPointS_f x l) := by
  simp only [laws_szPointS_pre, Bool.and_eq_true, szR_iff, fit_sl, decide_eq_true_eq, List.all_eq_true] at h
  obtain ⟨⟨hx, he⟩, hl0, hl1⟩ := h
  unfold laws_szPointS_s laws_szPointS_t0 laws_szPointS_f
  rw [w64_id (by omega) (by omega)]
  refine sz_loop0 (L := laws_szPointS_l1 ret (laws_szPointS_k x l) x) (fun n i v hi hv => ?_) (fun n v => ?_) hl0 hl1 (by unfold laws_szPointS_k; omega)
  · rw [szR_iff] at hv
    have hm := he x[i] (List.getElem_mem _)
    show laws_szPointS_t1 _ _ _ _ _ = _
    unfold laws_szPointS_t1
    rw [bif_pos (by omega), chk_pos (inb_pos hi), getD_at hi]
    have hp : laws_szPoint_pre x[i] v = true := by simp only [laws_szPoint_pre, Bool.and_eq_true]; exact ⟨hm, szR_iff.2 hv⟩
    simp only [hp, chk_tt, laws_szPoint_f, bif_ite]
    rw [w64_id (by omega) (by omega)]
    unfold szF
    grind
  · show laws_szPointS_t1 _ _ _ _ _ = _
    unfold laws_szPointS_t1
    rw [bif_neg (by omega)]
theorem laws_szKey_law {A : Type} (ret : Int → Option A) (x l) (h : laws_szKey_pre x l = true) : laws_szKey_s ret x l = ret (laws_szKey_f x l) := by
  obtain ⟨x1, x2, x3, x4, x5, x6, ⟨⟩⟩ := x
  simp only [laws_szKey_pre, Bool.and_eq_true, szR_iff] at h
  obtain ⟨h, hl⟩ := h
  obtain ⟨f1, h⟩ := fitp h; obtain ⟨f2, h⟩ := fitp h; obtain ⟨f3, h⟩ := fitp h; obtain ⟨f4, h⟩ := fitp h; obtain ⟨f5, h⟩ := fitp h; obtain ⟨f6, h⟩ := fitp h
  unfold laws_szKey_s laws_szKey_f
  simp only [laws_szPoint_f, laws_szPoint_pre, laws_szPairPoint_f, laws_szPairPoint_pre, laws_szPointS_f, laws_szPointS_pre, chk_ite, bif_ite, Bool.and_eq_true, szR_iff, szF, w_pair, w_int, w_bool, w_unit, w_str]
  grind
theorem laws_szProof_law {A : Type} (ret : Int → Option A) (x l) (h : laws_szProof_pre x l = true) : laws_szProof_s ret x l = ret (laws_szProof_f x l) := by
  obtain ⟨x1, x2, x3, x4, ⟨⟩⟩ := x
  simp only [laws_szProof_pre, Bool.and_eq_true, szR_iff] at h
  obtain ⟨h, hl⟩ := h
  obtain ⟨f1, h⟩ := fitp h; obtain ⟨f2, h⟩ := fitp h; obtain ⟨f3, h⟩ := fitp h; obtain ⟨f4, h⟩ := fitp h
  unfold laws_szProof_s laws_szProof_f
  simp only [laws_szPoint_f, laws_szPoint_pre, laws_szPairPoint_f, laws_szPairPoint_pre, chk_ite, bif_ite, Bool.and_eq_true, szR_iff, szF, w_pair, w_int, w_bool, w_unit, w_str]
  grind
theorem laws_szArtefact_law {A : Type} (ret : Int → Option A) (x l) (h : laws_szArtefact_pre x l = true) : laws_szArtefact_s ret x l = ret (laws_szArtefact_f x l) := by
  obtain ⟨x1, x2, x3, x4, x5, x6, x7, x8, ⟨⟩⟩ := x
  simp only [laws_szArtefact_pre, Bool.and_eq_true, szR_iff] at h
  obtain ⟨h, hl⟩ := h
  obtain ⟨f1, h⟩ := fitp h; obtain ⟨f2, h⟩ := fitp h; obtain ⟨f3, h⟩ := fitp h; obtain ⟨f4, h⟩ := fitp h; obtain ⟨f5, h⟩ := fitp h; obtain ⟨f6, h⟩ := fitp h; obtain ⟨f7, h⟩ := fitp h; obtain ⟨f8, h⟩ := fitp h
  unfold laws_szArtefact_s laws_szArtefact_f
  simp only [laws_szPoint_f, laws_szPoint_pre, laws_szPairPoint_f, laws_szPairPoint_pre, laws_szSystem_f, laws_szSystem_pre, laws_szWitness_f, laws_szWitness_pre, laws_szKey_f, laws_szKey_pre, laws_szProof_f, laws_szProof_pre, chk_ite, bif_ite, Bool.and_eq_true, szR_iff, szF, w_pair, w_int, w_bool, w_unit, w_str]
  grind
theorem laws_toPoint_law {A : Type} (ret : _ → Option A) (x) : laws_toPoint_s ret x = ret (laws_toPoint_f x) := by
  obtain ⟨x1, x2, x3, ⟨⟩⟩ := x
  unfold laws_toPoint_s laws_toPoint_f
  try rfl
theorem laws_toPair_law {A : Type} (ret : _ → Option A) (x) : laws_toPair_s ret x = ret (laws_toPair_f x) := by
  obtain ⟨x1, x2, ⟨⟩⟩ := x
  unfold laws_toPair_s laws_toPair_f
  try rfl
theorem laws_toPairPoint_law {A : Type} (ret : _ → Option A) (x) : laws_toPairPoint_s ret x = ret (laws_toPairPoint_f x) := by
  obtain ⟨x1, x2, x3, ⟨⟩⟩ := x
  unfold laws_toPairPoint_s laws_toPairPoint_f
  simp only [laws_toPair_f]
  try rfl
theorem laws_toTerm_law {A : Type} (ret : _ → Option A) (x) : laws_toTerm_s ret x = ret (laws_toTerm_f x) := by
  obtain ⟨x1, x2, ⟨⟩⟩ := x
  unfold laws_toTerm_s laws_toTerm_f
  try rfl
theorem laws_toTermS_law {A : Type} (ret : _ → Option A) (x) (h : laws_toTermS_pre x = true) : laws_toTermS_s ret (laws_toTermS_k x) x = ret (laws_toTermS_f x) := by
  simp only [laws_toTermS_pre, decide_eq_true_eq] at h
  have hx := len_le_w x
  unfold laws_toTermS_s laws_toTermS_t0 laws_toTermS_f
  rw [chk_pos (mk_ok (by omega) (by omega)), Int.toNat_natCast]
  refine (map_loop0 (ret := ret) (L := laws_toTermS_l1 ret (laws_toTermS_k x) x) (a := x) (fun z => z) _ (fun n i ys hi hy => ?_) (fun n ys => ?_) (by unfold laws_toTermS_k; omega)).trans (congrArg ret (List.map_id' x))
  · show laws_toTermS_t1 _ _ _ _ _ = _
    unfold laws_toTermS_t1
    rw [bif_pos (by omega), chk_pos (inb_pos hi), getD_at hi]
    simp only [laws_toTerm_f, Int.toNat_natCast]
    rw [chk_pos (inb_pos (by omega)), w64_id (by omega) (by omega)]
    rfl
  · show laws_toTermS_t1 _ _ _ _ _ = _
    unfold laws_toTermS_t1
    rw [bif_neg (by omega)]
theorem laws_toRow_law {A : Type} (ret : _ → Option A) (x) (h : laws_toRow_pre x = true) : laws_toRow_s ret x = ret (laws_toRow_f x) := by
  obtain ⟨x1, x2, x3, ⟨⟩⟩ := x
  unfold laws_toRow_s laws_toRow_f
  simp only [laws_toRow_pre, w_pair, decide_eq_true_eq] at h
  have hw : ∀ n : Nat, n ≤ 1048576 → decide (n ≤ 1048576) = true := fun n h => decide_eq_true h
  simp only [laws_toTermS_f, laws_toTermS_pre]
  repeat rw [chk_pos (decide_eq_true (by omega))]
  try rfl
theorem laws_toRowS_law {A : Type} (ret : _ → Option A) (x) (h : laws_toRowS_pre x = true) : laws_toRowS_s ret (laws_toRowS_k x) x = ret (laws_toRowS_f x) := by
  simp only [laws_toRowS_pre, decide_eq_true_eq] at h
  have hx := len_le_w x
  unfold laws_toRowS_s laws_toRowS_t0 laws_toRowS_f
  rw [chk_pos (mk_ok (by omega) (by omega)), Int.toNat_natCast]
  refine (map_loop0 (ret := ret) (L := laws_toRowS_l1 ret (laws_toRowS_k x) x) (a := x) (fun z => z) _ (fun n i ys hi hy => ?_) (fun n ys => ?_) (by unfold laws_toRowS_k; omega)).trans (congrArg ret (List.map_id' x))
  · show laws_toRowS_t1 _ _ _ _ _ = _
    unfold laws_toRowS_t1
    rw [bif_pos (by omega), chk_pos (inb_pos hi), getD_at hi]
    have hp : laws_toRow_pre x[i] = true := by
      have := mem_le_w (List.getElem_mem hi)
      simp only [laws_toRow_pre, decide_eq_true_eq]; omega
    rw [chk_pos hp]
    simp only [laws_toRow_f, Int.toNat_natCast]
    rw [chk_pos (inb_pos (by omega)), w64_id (by omega) (by omega)]
    rfl
  · show laws_toRowS_t1 _ _ _ _ _ = _
    unfold laws_toRowS_t1
    rw [bif_neg (by omega)]
theorem laws_toSystem_law {A : Type} (ret : _ → Option A) (x) (h : laws_toSystem_pre x = true) : laws_toSystem_s ret x = ret (laws_toSystem_f x) := by
  obtain ⟨x1, x2, x3, x4, x5, x6, x7, ⟨⟩⟩ := x
  unfold laws_toSystem_s laws_toSystem_f
  simp only [laws_toSystem_pre, w_pair, decide_eq_true_eq] at h
  have hw : ∀ n : Nat, n ≤ 1048576 → decide (n ≤ 1048576) = true := fun n h => decide_eq_true h
  simp only [laws_toIntS_f, laws_toIntS_pre, laws_toRowS_f, laws_toRowS_pre]
  repeat rw [chk_pos (decide_eq_true (by omega))]
  try rfl
theorem laws_toWitness_law {A : Type} (ret : _ → Option A) (x) (h : laws_toWitness_pre x = true) : laws_toWitness_s ret x = ret (laws_toWitness_f x) := by
  obtain ⟨x1, x2, ⟨⟩⟩ := x
  unfold laws_toWitness_s laws_toWitness_f
  simp only [laws_toWitness_pre, w_pair, decide_eq_true_eq] at h
  have hw : ∀ n : Nat, n ≤ 1048576 → decide (n ≤ 1048576) = true := fun n h => decide_eq_true h
  simp only [laws_toStringS_f, laws_toStringS_pre]
  repeat rw [chk_pos (decide_eq_true (by omega))]
  try rfl
theorem laws_toPointS_law {A : Type} (ret : _ → Option A) (x) (h : laws_toPointS_pre x = true) : laws_toPointS_s ret (laws_toPointS_k x) x = ret (laws_toPointS_f x) := by
  simp only [laws_toPointS_pre, decide_eq_true_eq] at h
  have hx := len_le_w x
  unfold laws_toPointS_s laws_toPointS_t0 laws_toPointS_f
  rw [chk_pos (mk_ok (by omega) (by omega)), Int.toNat_natCast]
  refine (map_loop0 (ret := ret) (L := laws_toPointS_l1 ret (laws_toPointS_k x) x) (a := x) (fun z => z) _ (fun n i ys hi hy => ?_) (fun n ys => ?_) (by unfold laws_toPointS_k; omega)).trans (congrArg ret (List.map_id' x))
  · show laws_toPointS_t1 _ _ _ _ _ = _
    unfold laws_toPointS_t1
    rw [bif_pos (by omega), chk_pos (inb_pos hi), getD_at hi]
    simp only [laws_toPoint_f, Int.toNat_natCast]
    rw [chk_pos (inb_pos (by omega)), w64_id (by omega) (by omega)]
    rfl
  · show laws_toPointS_t1 _ _ _ _ _ = _
    unfold laws_toPointS_t1
    rw [bif_neg (by omega)]
theorem laws_toKey_law {A : Type} (ret : _ → Option A) (x) (h : laws_toKey_pre x = true) : laws_toKey_s ret x = ret (laws_toKey_f x) := by
  obtain ⟨x1, x2, x3, x4, x5, x6, ⟨⟩⟩ := x
  unfold laws_toKey_s laws_toKey_f
  simp only [laws_toKey_pre, w_pair, decide_eq_true_eq] at h
  have hw : ∀ n : Nat, n ≤ 1048576 → decide (n ≤ 1048576) = true := fun n h => decide_eq_true h
  simp only [laws_toPoint_f, laws_toPairPoint_f, laws_toPointS_f, laws_toPointS_pre]
  repeat rw [chk_pos (decide_eq_true (by omega))]
  try rfl
theorem laws_toProof_law {A : Type} (ret : _ → Option A) (x) : laws_toProof_s ret x = ret (laws_toProof_f x) := by
  obtain ⟨x1, x2, x3, x4, ⟨⟩⟩ := x
  unfold laws_toProof_s laws_toProof_f
  simp only [laws_toPoint_f, laws_toPairPoint_f]
  try rfl
theorem laws_toArtefact_law {A : Type} (ret : _ → Option A) (x) (h : laws_toArtefact_pre x = true) : laws_toArtefact_s ret x = ret (laws_toArtefact_f x) := by
  obtain ⟨x1, x2, x3, x4, x5, x6, x7, x8, ⟨⟩⟩ := x
  unfold laws_toArtefact_s laws_toArtefact_f
  simp only [laws_toArtefact_pre, w_pair, decide_eq_true_eq] at h
  have hw : ∀ n : Nat, n ≤ 1048576 → decide (n ≤ 1048576) = true := fun n h => decide_eq_true h
  simp only [laws_toPoint_f, laws_toPairPoint_f, laws_toSystem_f, laws_toSystem_pre, laws_toWitness_f, laws_toWitness_pre, laws_toKey_f, laws_toKey_pre, laws_toProof_f]
  repeat rw [chk_pos (decide_eq_true (by omega))]
  try rfl
theorem spec_CurveIn_law {A : Type} (ret : Int → Option A) (a) : spec_CurveIn_s ret a = ret (spec_CurveIn_f a) := by
  unfold spec_CurveIn_s spec_CurveIn_j1 spec_CurveIn_f curveIn
  grind
theorem impl_CurveIn_law {A : Type} (ret : Int → Option A) (a) : impl_CurveIn_s ret a = ret (impl_CurveIn_f a) := by
  unfold impl_CurveIn_s impl_CurveIn_j1 impl_CurveIn_f curveIn
  grind
theorem laws_eqPoint_law {A : Type} (ret : Bool → Option A) (x y) : laws_eqPoint_s ret x y = ret (laws_eqPoint_f x y) := by
  obtain ⟨x1, x2, x3, ⟨⟩⟩ := x
  obtain ⟨y1, y2, y3, ⟨⟩⟩ := y
  unfold laws_eqPoint_s laws_eqPoint_f
  simp only [Prod.mk.injEq]
  grind
theorem laws_eqPair_law {A : Type} (ret : Bool → Option A) (x y) : laws_eqPair_s ret x y = ret (laws_eqPair_f x y) := by
  obtain ⟨x1, x2, ⟨⟩⟩ := x
  obtain ⟨y1, y2, ⟨⟩⟩ := y
  unfold laws_eqPair_s laws_eqPair_f
  simp only [Prod.mk.injEq]
  grind
theorem laws_eqPairPoint_law {A : Type} (ret : Bool → Option A) (x y) : laws_eqPairPoint_s ret x y = ret (laws_eqPairPoint_f x y) := by
  obtain ⟨x1, x2, x3, ⟨⟩⟩ := x
  obtain ⟨y1, y2, y3, ⟨⟩⟩ := y
  unfold laws_eqPairPoint_s laws_eqPairPoint_f
  simp only [laws_eqPair_f]
  simp only [Prod.mk.injEq]
  grind
theorem laws_eqTerm_law {A : Type} (ret : Bool → Option A) (x y) : laws_eqTerm_s ret x y = ret (laws_eqTerm_f x y) := by
  obtain ⟨x1, x2, ⟨⟩⟩ := x
  obtain ⟨y1, y2, ⟨⟩⟩ := y
  unfold laws_eqTerm_s laws_eqTerm_f
  simp only [Prod.mk.injEq]
  grind
theorem laws_eqTermS_law {A : Type} (ret : Bool → Option A) (x y) (h : laws_eqTermS_pre x y = true) : laws_eqTermS_s ret (laws_eqTermS_k x y) x y = ret (laws_eqTermS_f x y) := by
  simp only [laws_eqTermS_pre, decide_eq_true_eq] at h
  have hx := len_le_w x
  unfold laws_eqTermS_s laws_eqTermS_t0 laws_eqTermS_f
  by_cases hl : x.length = y.length
  · rw [show ((x.length : Int) != (y.length : Int)) = false by simp [hl], cond_false]
    refine eq_loop0 (L := laws_eqTermS_l1 ret (laws_eqTermS_k x y) x y) hl (fun n i hi => ?_) (fun n => ?_) (by unfold laws_eqTermS_k; omega)
    · have hy : i < y.length := by omega
      show laws_eqTermS_t1 _ _ _ _ _ = _
      unfold laws_eqTermS_t1
      rw [bif_pos (by omega), chk_pos (inb_pos hi), chk_pos (inb_pos hy), getD_at hi, getD_at hy]
      rw [w64_id (by omega) (by omega)]
      simp only [laws_eqTerm_f]
      grind
    · show laws_eqTermS_t1 _ _ _ _ _ = _
      unfold laws_eqTermS_t1
      rw [bif_neg (by omega)]
  · rw [show ((x.length : Int) != (y.length : Int)) = true by simp; omega, cond_true]
    congr 1
    simp only [Bool.false_eq, decide_eq_false_iff_not]
    exact fun e => hl (by rw [e])
theorem laws_eqRow_law {A : Type} (ret : Bool → Option A) (x y) (h : laws_eqRow_pre x y = true) : laws_eqRow_s ret x y = ret (laws_eqRow_f x y) := by
  obtain ⟨x1, x2, x3, ⟨⟩⟩ := x
  obtain ⟨y1, y2, y3, ⟨⟩⟩ := y
  unfold laws_eqRow_s laws_eqRow_f
  simp only [laws_eqRow_pre, w_pair, decide_eq_true_eq] at h
  simp only [laws_eqTermS_f, laws_eqTermS_pre]
  repeat rw [chk_pos (decide_eq_true (by omega))]
  simp only [Prod.mk.injEq]
  grind
theorem laws_eqRowS_law {A : Type} (ret : Bool → Option A) (x y) (h : laws_eqRowS_pre x y = true) : laws_eqRowS_s ret (laws_eqRowS_k x y) x y = ret (laws_eqRowS_f x y) := by
  simp only [laws_eqRowS_pre, decide_eq_true_eq] at h
  have hx := len_le_w x
  unfold laws_eqRowS_s laws_eqRowS_t0 laws_eqRowS_f
  by_cases hl : x.length = y.length
  · rw [show ((x.length : Int) != (y.length : Int)) = false by simp [hl], cond_false]
    refine eq_loop0 (L := laws_eqRowS_l1 ret (laws_eqRowS_k x y) x y) hl (fun n i hi => ?_) (fun n => ?_) (by unfold laws_eqRowS_k; omega)
    · have hy : i < y.length := by omega
      show laws_eqRowS_t1 _ _ _ _ _ = _
      unfold laws_eqRowS_t1
      rw [bif_pos (by omega), chk_pos (inb_pos hi), chk_pos (inb_pos hy), getD_at hi, getD_at hy]
      have hp : laws_eqRow_pre x[i] y[i] = true := by
        have := mem_le_w (List.getElem_mem hi)
        simp only [laws_eqRow_pre, decide_eq_true_eq]; omega
      rw [chk_pos hp]
      rw [w64_id (by omega) (by omega)]
      simp only [laws_eqRow_f]
      grind
    · show laws_eqRowS_t1 _ _ _ _ _ = _
      unfold laws_eqRowS_t1
      rw [bif_neg (by omega)]
  · rw [show ((x.length : Int) != (y.length : Int)) = true by simp; omega, cond_true]
    congr 1
    simp only [Bool.false_eq, decide_eq_false_iff_not]
    exact fun e => hl (by rw [e])
theorem laws_eqSystem_law {A : Type} (ret : Bool → Option A) (x y) (h : laws_eqSystem_pre x y = true) : laws_eqSystem_s ret x y = ret (laws_eqSystem_f x y) := by
  obtain ⟨x1, x2, x3, x4, x5, x6, x7, ⟨⟩⟩ := x
  obtain ⟨y1, y2, y3, y4, y5, y6, y7, ⟨⟩⟩ := y
  unfold laws_eqSystem_s laws_eqSystem_f
  simp only [laws_eqSystem_pre, w_pair, decide_eq_true_eq] at h
  simp only [laws_eqIntS_f, laws_eqIntS_pre, laws_eqRowS_f, laws_eqRowS_pre]
  repeat rw [chk_pos (decide_eq_true (by omega))]
  simp only [Prod.mk.injEq]
  grind
theorem laws_eqWitness_law {A : Type} (ret : Bool → Option A) (x y) (h : laws_eqWitness_pre x y = true) : laws_eqWitness_s ret x y = ret (laws_eqWitness_f x y) := by
  obtain ⟨x1, x2, ⟨⟩⟩ := x
  obtain ⟨y1, y2, ⟨⟩⟩ := y
  unfold laws_eqWitness_s laws_eqWitness_f
  simp only [laws_eqWitness_pre, w_pair, decide_eq_true_eq] at h
  simp only [laws_eqStringS_f, laws_eqStringS_pre]
  repeat rw [chk_pos (decide_eq_true (by omega))]
  simp only [Prod.mk.injEq]
  grind
theorem laws_eqPointS_law {A : Type} (ret : Bool → Option A) (x y) (h : laws_eqPointS_pre x y = true) : laws_eqPointS_s ret (laws_eqPointS_k x y) x y = ret (laws_eqPointS_f x y) := by
  simp only [laws_eqPointS_pre, decide_eq_true_eq] at h
  have hx := len_le_w x
  unfold laws_eqPointS_s laws_eqPointS_t0 laws_eqPointS_f
  by_cases hl : x.length = y.length
  · rw [show ((x.length : Int) != (y.length : Int)) = false by simp [hl], cond_false]
    refine eq_loop0 (L := laws_eqPointS_l1 ret (laws_eqPointS_k x y) x y) hl (fun n i hi => ?_) (fun n => ?_) (by unfold laws_eqPointS_k; omega)
    · have hy : i < y.length := by omega
      show laws_eqPointS_t1 _ _ _ _ _ = _
      unfold laws_eqPointS_t1
      rw [bif_pos (by omega), chk_pos (inb_pos hi), chk_pos (inb_pos hy), getD_at hi, getD_at hy]
      rw [w64_id (by omega) (by omega)]
      simp only [laws_eqPoint_f]
      grind
    · show laws_eqPointS_t1 _ _ _ _ _ = _
      unfold laws_eqPointS_t1
      rw [bif_neg (by omega)]
  · rw [show ((x.length : Int) != (y.length : Int)) = true by simp; omega, cond_true]
    congr 1
    simp only [Bool.false_eq, decide_eq_false_iff_not]
    exact fun e => hl (by rw [e])
theorem laws_eqKey_law {A : Type} (ret : Bool → Option A) (x y) (h : laws_eqKey_pre x y = true) : laws_eqKey_s ret x y = ret (laws_eqKey_f x y) := by
  obtain ⟨x1, x2, x3, x4, x5, x6, ⟨⟩⟩ := x
  obtain ⟨y1, y2, y3, y4, y5, y6, ⟨⟩⟩ := y
  unfold laws_eqKey_s laws_eqKey_f
  simp only [laws_eqKey_pre, w_pair, decide_eq_true_eq] at h
  simp only [laws_eqPoint_f, laws_eqPairPoint_f, laws_eqPointS_f, laws_eqPointS_pre]
  repeat rw [chk_pos (decide_eq_true (by omega))]
  simp only [Prod.mk.injEq]
  grind
theorem laws_eqProof_law {A : Type} (ret : Bool → Option A) (x y) : laws_eqProof_s ret x y = ret (laws_eqProof_f x y) := by
  obtain ⟨x1, x2, x3, x4, ⟨⟩⟩ := x
  obtain ⟨y1, y2, y3, y4, ⟨⟩⟩ := y
  unfold laws_eqProof_s laws_eqProof_f
  simp only [laws_eqPoint_f, laws_eqPairPoint_f]
  simp only [Prod.mk.injEq]
  grind
theorem laws_eqArtefact_law {A : Type} (ret : Bool → Option A) (x y) (h : laws_eqArtefact_pre x y = true) : laws_eqArtefact_s ret x y = ret (laws_eqArtefact_f x y) := by
  obtain ⟨x1, x2, x3, x4, x5, x6, x7, x8, ⟨⟩⟩ := x
  obtain ⟨y1, y2, y3, y4, y5, y6, y7, y8, ⟨⟩⟩ := y
  unfold laws_eqArtefact_s laws_eqArtefact_f
  simp only [laws_eqArtefact_pre, w_pair, decide_eq_true_eq] at h
  simp only [laws_eqPoint_f, laws_eqPairPoint_f, laws_eqSystem_f, laws_eqSystem_pre, laws_eqWitness_f, laws_eqWitness_pre, laws_eqKey_f, laws_eqKey_pre, laws_eqProof_f]
  repeat rw [chk_pos (decide_eq_true (by omega))]
  simp only [Prod.mk.injEq]
  grind
theorem laws_FnExactCurveIn_law {A : Type} (ret : Bool → Option A) (a) (h : laws_FnExactCurveIn_pre a = true) : laws_FnExactCurveIn_s ret a = ret (laws_FnExactCurveIn_f a) := by
  have p0 : laws_szArtefact_pre a 1048576 = true := by unfold laws_szArtefact_pre; rw [Bool.and_eq_true]; exact ⟨h, rfl⟩
  unfold laws_FnExactCurveIn_s laws_FnExactCurveIn_f
  rw [chk_pos p0]
  by_cases ha : (w a : Int) ≤ 1048576
  · rw [show laws_szArtefact_f a 1048576 = _ from szF_pos ha, bif_neg (by omega)]
    have p1 : laws_toArtefact_pre a = true := decide_eq_true (by omega)
    have p2 : laws_eqArtefact_pre a a = true := decide_eq_true (by omega)
    simp only [laws_toArtefact_f, laws_eqArtefact_f, spec_CurveIn_f, impl_CurveIn_f, p1, p2, chk_tt, decide_true, Bool.not_true, cond_false, bne_self_eq_false]
  · rw [show laws_szArtefact_f a 1048576 = _ from szF_neg ha, bif_pos (by omega)]
end Go.Vp
