/- FnExactFlipped, by the evaluator: links of the functions with plain functions, and the plain laws. -/
import Derived.Test.YtopiinnggjcbnaaViD
import Derived.Test.YtopiinnggjcbnaaProg
import Derived.KernelRfl
import Derived.Below
import Derived.Laws.Bits64
import Derived.Laws.BitsLemmas
namespace Go.Proofs.Ytopiinnggjcbnaa.VFlipped
open Go Go.Vi Go.RowKit
def tab : List (TypeId × TI) := [(3, ⟨1, 8, .int .i64, some (.int .i64)⟩), (4, ⟨1, 1, .bool, some .bool⟩), (9, ⟨1, 16, .str, some .str⟩), (5, ⟨1, 1, .int .u8, some (.int .u8)⟩), (84, ⟨1, 24, .sl 5, some (.sl (.int .u8))⟩), (85, ⟨1, 8, .int .u64, some (.int .u64)⟩)]
theorem tabB : (tab.all fun x => tiB Try.prog (lookT tab) x.1) = true := by kernel_rfl
theorem tok : TOK Try.prog (lookT tab) := tok_of tabB
theorem mixed : Try.prog.follows .mixedOrders = true := by kernel_rfl
abbrev ret (rts : List Ty) (y : Ds rts) : Option R0 := some (outV rts y, [])
/-! plain functions -/
def w64 (n : Int) : Int := IntKind.wrap .i64 n
def flipAt (s : Str) (i : Int) (k : Int) : Str := toStr ((bytesI s).set i.toNat (bitI .xor .u8 ((bytesI s).getD i.toNat (0:Int)) (shl .u8 1 k)))
def flipS (s : Str) (n : Int) : Option R0 :=
  bif decide (n < 0) then ret [.str] (s, ()) else
  bif decide (w64 (n.tdiv 8) ≥ (s.length : Int)) then ret [.str] (s, ()) else
  chk (decide (0 ≤ w64 (n.tdiv 8)) && decide (w64 (n.tdiv 8) < ((bytesI s).length : Int)))
    (chk (decide (0 ≤ IntKind.wrap .u64 (n.tmod 8))) (chk (decide (0 ≤ w64 (n.tdiv 8)) && decide (w64 (n.tdiv 8) < ((bytesI s).length : Int)))
     (ret [.str] (flipAt s (w64 (n.tdiv 8)) (IntKind.wrap .u64 (n.tmod 8)), ()))))
def withinS (x lo hi : Int) : Option R0 := bif decide (lo ≤ x) then ret [.bool] (decide (x ≤ hi), ()) else ret [.bool] (false, ())
def within (x : Ds [.int .i64, .int .i64, .int .i64]) : Ds [.bool] := (decide (x.2.1 ≤ x.1) && decide (x.1 ≤ x.2.2.1), ())
def c45 : PC := ⟨[.int .i64, .int .i64, .int .i64], [.bool], fun _ => true, within⟩
def tb0 : FuncId → Option PC := fun _ => none
theorem link45 (x : Ds c45.ts) : funE (lookT tab) (gam tb0) [] 0 0 Try.f45 (dV c45.ts x) [] (Kout c45.rts) = withinS x.1 x.2.1 x.2.2.1 := by kernel_rfl
def tb1 : FuncId → Option PC := fun g => bif Nat.beq g 45 then some c45 else none
def flopS (s : Str) (n : Int) : Option R0 :=
  bif !((decide ((0:Int) ≤ n) && decide (n ≤ w64 (w64 (8 * (s.length : Int)) - 1)))) then ret [.str] (s, ()) else
   chk (decide (0 ≤ w64 (n.tdiv 8)) && decide (w64 (n.tdiv 8) < ((bytesI s).length : Int)))
    (chk (decide (0 ≤ n.tmod 8)) (chk (decide (0 ≤ w64 (n.tdiv 8)) && decide (w64 (n.tdiv 8) < ((bytesI s).length : Int)))
     (ret [.str] (flipAt s (w64 (n.tdiv 8)) (n.tmod 8), ()))))
/-- what both come to -/
def flip (x : Ds [.str, .int .i64]) : Ds [.str] := (bif decide (x.2.1 < 0) || decide ((x.1.length : Int) ≤ x.2.1 / 8) then x.1 else flipAt x.1 (x.2.1 / 8) (x.2.1 % 8), ())
def pre (x : Ds [.str, .int .i64]) : Bool := decide (x.1.length ≤ 1048576) && decide (-9223372036854775808 ≤ x.2.1) && decide (x.2.1 ≤ 9223372036854775807)
def cFlip : PC := ⟨[.str, .int .i64], [.str], pre, flip⟩
theorem link15 (x : Ds cFlip.ts) : funE (lookT tab) (gam tb0) [] 0 0 Try.f15 (dV cFlip.ts x) [] (Kout cFlip.rts) = flipS x.1 x.2.1 := by kernel_rfl
theorem link16 (x : Ds cFlip.ts) : funE (lookT tab) (gam tb1) [] 0 0 Try.f16 (dV cFlip.ts x) [] (Kout cFlip.rts) = flopS x.1 x.2.1 := by kernel_rfl
def tb2 : FuncId → Option PC := fun g => bif Nat.beq g 15 then some cFlip else bif Nat.beq g 16 then some cFlip else none
def lawS (s : Str) (n : Int) : Option R0 :=
  bif decide ((s.length : Int) > 1048576) then ret [.bool] (true, ()) else
  chk (pre (s, n, ())) (chk (pre (s, n, ())) (bif !((flip (s, n, ())).1 == (flip (s, n, ())).1) then ret [.bool] (false, ()) else ret [.bool] (true, ())))
def cLaw : PC := ⟨[.str, .int .i64], [.bool], fun x => decide (-9223372036854775808 ≤ x.2.1) && decide (x.2.1 ≤ 9223372036854775807), fun _ => (true, ())⟩
theorem link4 (x : Ds cLaw.ts) : funE (lookT tab) (gam tb2) [] 0 0 Try.f4 (dV cLaw.ts x) [] (Kout cLaw.rts) = lawS x.1 x.2.1 := by kernel_rfl
/-! the plain laws -/
theorem w64_in {n : Int} (h0 : -9223372036854775808 ≤ n) (h1 : n ≤ 9223372036854775807) : w64 n = n := by
  unfold w64
  rw [IntKind.wrap_i64]
  omega
theorem u64_in {n : Int} (h0 : 0 ≤ n) (h1 : n < 18446744073709551616) : IntKind.wrap .u64 n = n := by
  rw [IntKind.wrap_u64]
  omega
theorem bytesI_len (s : Str) : (bytesI s).length = s.length := by simp [bytesI]
theorem flipS_is (s : Str) (n : Int) (h : pre (s, n, ()) = true) : flipS s n = ret [.str] (flip (s, n, ())) := by
  have h' : (s.length ≤ 1048576 ∧ -9223372036854775808 ≤ n) ∧ n ≤ 9223372036854775807 := by simpa only [pre, Bool.and_eq_true, decide_eq_true_eq] using h
  obtain ⟨⟨h1, h2⟩, h3⟩ := h'
  unfold flipS flip
  simp only [bytesI_len]
  by_cases hn : n < 0
  · simp [hn]
  · have e1 : n.tdiv 8 = n / 8 := Int.tdiv_eq_ediv_of_nonneg (by omega)
    have e2 : n.tmod 8 = n % 8 := Int.tmod_eq_emod_of_nonneg (by omega)
    have e3 : w64 (n / 8) = n / 8 := w64_in (by omega) (by omega)
    have e4 : IntKind.wrap .u64 (n % 8) = n % 8 := u64_in (by omega) (by omega)
    rw [e1, e2, e3, e4]
    by_cases hl : (s.length : Int) ≤ n / 8
    · simp [hn, hl]
    · have a1 : 0 ≤ n / 8 := by omega
      have a2 : n / 8 < (s.length : Int) := by omega
      have a3 : 0 ≤ n % 8 := by omega
      simp [hn, hl, a1, a2, a3, chk]
theorem flopS_is (s : Str) (n : Int) (h : pre (s, n, ()) = true) : flopS s n = ret [.str] (flip (s, n, ())) := by
  have h' : (s.length ≤ 1048576 ∧ -9223372036854775808 ≤ n) ∧ n ≤ 9223372036854775807 := by simpa only [pre, Bool.and_eq_true, decide_eq_true_eq] using h
  obtain ⟨⟨h1, h2⟩, h3⟩ := h'
  unfold flopS flip
  simp only [bytesI_len]
  have e0 : w64 (w64 (8 * (s.length : Int)) - 1) = 8 * (s.length : Int) - 1 := by
    rw [w64_in (n := 8 * (s.length : Int)) (by omega) (by omega), w64_in (by omega) (by omega)]
  rw [e0]
  by_cases hn : n < 0
  · have : ¬ 0 ≤ n := by omega
    simp [hn, this]
  · have e1 : n.tdiv 8 = n / 8 := Int.tdiv_eq_ediv_of_nonneg (by omega)
    have e2 : n.tmod 8 = n % 8 := Int.tmod_eq_emod_of_nonneg (by omega)
    have e3 : w64 (n / 8) = n / 8 := w64_in (by omega) (by omega)
    have a0 : 0 ≤ n := by omega
    rw [e1, e2, e3]
    by_cases hl : (s.length : Int) ≤ n / 8
    · have : ¬ n ≤ 8 * (s.length : Int) - 1 := by omega
      simp [hn, hl, this]
    · have a1 : 0 ≤ n / 8 := by omega
      have a2 : n / 8 < (s.length : Int) := by omega
      have a3 : 0 ≤ n % 8 := by omega
      have a4 : n ≤ 8 * (s.length : Int) - 1 := by omega
      simp [hn, hl, a0, a1, a2, a3, a4, chk]
theorem gok0 : GamOk Try.prog (gam tb0) := gam_ok fun g c h => by cases h
theorem ok45 : PCOk Try.prog 45 c45 := by
  refine pc_ok (J := []) (k := fun _ => 0) tok gok0 mixed Try.func45 rfl (by kernel_rfl) fun x _ => (link45 x).trans ?_
  obtain ⟨x, lo, hi, _⟩ := x
  show withinS x lo hi = ret [.bool] (within (x, lo, hi, ()))
  unfold withinS within
  cases decide (lo ≤ x) <;> rfl
theorem ok15 : PCOk Try.prog 15 cFlip := by
  refine pc_ok (J := []) (k := fun _ => 0) tok gok0 mixed Try.func15 rfl (by kernel_rfl) fun x h => (link15 x).trans ?_
  obtain ⟨s, n, _⟩ := x
  exact flipS_is s n h
theorem gok1 : GamOk Try.prog (gam tb1) := gam_ok fun g c h => by
  unfold tb1 at h
  cases hb : Nat.beq g 45 with
  | true => rw [hb] at h; cases h; rw [Nat.eq_of_beq_eq_true hb]; exact ok45
  | false => rw [hb] at h; cases h
theorem ok16 : PCOk Try.prog 16 cFlip := by
  refine pc_ok (J := []) (k := fun _ => 0) tok gok1 mixed Try.func16 rfl (by kernel_rfl) fun x h => (link16 x).trans ?_
  obtain ⟨s, n, _⟩ := x
  exact flopS_is s n h
theorem gok2 : GamOk Try.prog (gam tb2) := gam_ok fun g c h => by
  unfold tb2 at h
  cases hb : Nat.beq g 15 with
  | true => rw [hb] at h; cases h; rw [Nat.eq_of_beq_eq_true hb]; exact ok15
  | false =>
    rw [hb] at h
    cases hb2 : Nat.beq g 16 with
    | true => rw [hb2] at h; cases h; rw [Nat.eq_of_beq_eq_true hb2]; exact ok16
    | false => rw [hb2] at h; cases h
theorem lawS_is (s : Str) (n : Int) (h2 : -9223372036854775808 ≤ n) (h3 : n ≤ 9223372036854775807) : lawS s n = ret [.bool] (true, ()) := by
  unfold lawS
  by_cases hl : (s.length : Int) > 1048576
  · simp [hl]
  · have hp : pre (s, n, ()) = true := by
      show (decide (s.length ≤ 1048576) && decide (-9223372036854775808 ≤ n) && decide (n ≤ 9223372036854775807)) = true
      simp only [Bool.and_eq_true, decide_eq_true_eq]
      omega
    simp [hl, hp, chk]
theorem ok4 : PCOk Try.prog 4 cLaw := by
  refine pc_ok (J := []) (k := fun _ => 0) tok gok2 mixed Try.func4 rfl (by kernel_rfl) fun x h => (link4 x).trans ?_
  obtain ⟨s, n, _⟩ := x
  have h' : -9223372036854775808 ≤ n ∧ n ≤ 9223372036854775807 := by simpa only [cLaw, Bool.and_eq_true, decide_eq_true_eq] using h
  exact lawS_is s n h'.1 h'.2
theorem walk (s : ByteArray) (n : Int) (W : World) (h : (Lit.int .i64 n).wf = true) : Calls Try.prog 4 #[.string s, .int .i64 n] W fun e W' => e = .returned (.bool true) ∧ Below W.heap.size W W' := by
  have hn : -9223372036854775808 ≤ n ∧ n ≤ 9223372036854775807 := by
    simp [Lit.wf, IntKind.min, IntKind.max, IntKind.bits, IntKind.signed] at h
    omega
  have hd : DReps (fun g => g < W.heap.size) W [.str, .int .i64] (s.data.toList, n, ()) [.string s, .int .i64 n] :=
    ⟨_, _, rfl, fun F => by simpa using VRep.str (F := F) (w := W) (s := s.data.toList), _, _, rfl, fun F => .int, rfl⟩
  rcases ok4 (fun g => g < W.heap.size) W [.string s, .int .i64 n] (s.data.toList, n, ()) (fun g h => h) hd (by
    show (decide (-9223372036854775808 ≤ n) && decide (n ≤ 9223372036854775807)) = true
    simp only [Bool.and_eq_true, decide_eq_true_eq]
    exact hn) with ⟨_, hc⟩ | ⟨u, w', hc, _⟩
  · refine hc.mono fun e W' he => ?_
    cases e with
    | returned u =>
      obtain ⟨S', hv, _, _, _, e1, e2, e3, e4, e5⟩ := he
      have hu : u = .bool true := (hv fun _ => none).bool_inv
      exact ⟨by rw [hu], e1, e2, e3, e4, e5⟩
    | panicked c => exact he.elim
    | outgrown => exact he.elim
  · rw [enter_run Try.func4 rfl (by kernel_rfl)] at hc
    cases hc
end Go.Proofs.Ytopiinnggjcbnaa.VFlipped
