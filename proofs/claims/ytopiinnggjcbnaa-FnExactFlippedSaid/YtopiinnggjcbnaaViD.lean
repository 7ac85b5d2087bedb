/- Vi, part D: our own text, the same for every seat: a verified evaluator of the code over typed data. -/
import Derived.Test.YtopiinnggjcbnaaViC
import Derived.Deep.LoopGhost
/-
  Vi, part 23: code.
-/
namespace Go.Vi
open Go
section
variable {P : Program} {τ : Tau} {Γ : Gam R0} {w0 wB : World} {O : Nat → Prop} {FB : Nat → Option Pl} {SB : Nat → Prop} {q : Nat}
theorem Inv.more {F : Nat → Option Pl} {S : Nat → Prop} {w : World} {m : Mem} (hI : Inv w0 O F S w m) (k : Nat) : Inv w0 O F S w (m ++ List.replicate k .dead) := by
  have hin : ∀ {b : Nat} {x : Blk}, (m ++ List.replicate k .dead)[b]? = some x → x ≠ .dead → m[b]? = some x := by
    intro b x hx hne
    rcases Nat.lt_or_ge b m.length with h | h
    · rwa [List.getElem?_append_left h] at hx
    · rw [List.getElem?_append_right h, List.getElem?_replicate] at hx
      split at hx
      · cases hx; exact (hne rfl).elim
      · cases hx
  have hd : ∀ {p : Pl} {x : Blk}, x.hot p → x ≠ .dead := by rintro p x h rfl; exact h
  refine ⟨hI.ext, fun b hb => hI.dom b (by simp at hb; omega), fun b x p hx hp => ?_, fun b b' x x' p p' hx hx' hp hp' h h' => hI.sep b b' x x' p p' (hin hx (hd h)) (hin hx' (hd h')) hp hp' h h', fun b x p hx hp h => hI.out b x p (hin hx (hd h)) hp h, hI.sb, hI.so, fun b x hx hne => hI.is b x (hin hx hne) hne⟩
  by_cases hne : x = .dead
  · subst hne; trivial
  · exact hI.blk b x p (hin hx hne) hp
theorem rep_false (n j : Nat) : ¬ (Array.replicate n false).getD j false = true := by
  rw [Array.getD_eq_getD_getElem?, Array.getElem?_replicate]
  split <;> simp
theorem regionD_sound (hτ : TOK P τ) (hΓ : GamOk P Γ) (hm : P.follows .mixedOrders = true) (hFB : ∀ b, q ≤ b → FB b = none) {id : Nat} {ops : Array Oper} {Q : Exit → Act → World → Prop} {K : List V → Mem → Option R0} {r : R0} {s : List V} {m : Mem} {a : Act} {w : World}
    (hs : St w0 O FB SB wB s m a w) (h : regionD τ Γ ops q s m K = some r) (hQ : ∀ s m a w, St w0 O FB SB wB s m a w → K s m = some r → Q .normal a w) : (Code.region id ops true).wp P Q a w := by
  obtain ⟨hd, F, S, hr, hI, hk⟩ := hs
  obtain ⟨rs, st, hl, h0, hst, hb, hf, hg⟩ := drawE_run hΓ h
  have R : Run τ Γ ops m.length rs st := by
    refine ⟨by simpa using hl, fun i o ho => ?_, hb, by simpa using hf, by rw [h0]; simp, fun b h1 h2 => ?_⟩
    · have := hst i o (by simpa using ho)
      simpa using this
    · rw [h0]
      show (m ++ List.replicate (2 * ops.size) .dead)[b]? = some .dead
      rw [List.getElem?_append_right h1, List.getElem?_replicate, if_pos (by omega)]
  refine wp_region_any hm (draw_any (w0 := w0) (wB := wB) (O := O) (FB := FB) (SB := SB) hτ hΓ R (fun s1 m1 a1 w1 hs1 e1 e2 => ?_) ops.size _ _ _ (by simp) ?_ ?_ ?_)
  · subst e1 e2
    have hg' : gc q (st ops.size).1 (st ops.size).2 K = some r := by simpa using hg
    obtain ⟨s2, m2, h1, h2⟩ := gc_sound hFB hs1 hg'
    exact hQ _ _ _ _ h1 h2
  · unfold unl
    have := List.length_filter_le (fun i => !(Array.replicate ops.size false).getD i false) (List.range ops.size)
    simpa using this
  · intro i o ho hi
    exact (rep_false _ _ hi).elim
  · have hno : ∀ j, ¬ ((Array.replicate ops.size false).getD j false = true) := fun j hj => rep_false _ _ hj
    have hkw : Keep F S w F S { w with drawn := w.drawn + 1 } := ⟨fun _ _ h => h, fun _ h => h, fun _ _ => rfl⟩
    refine ⟨hd, s, m ++ List.replicate (2 * ops.size) .dead, F, S, VReps.keep hkw hr, (hI.more _).world (w' := { w with drawn := w.drawn + 1 }) rfl rfl rfl (Nat.le_refl _) (fun _ _ => rfl) (fun _ _ _ _ _ _ => rfl) (fun _ _ _ => rfl), hk.trans hkw, ⟨by rw [h0], fun t => ?_, by rw [h0], fun b => ?_⟩, fun j rj hrj _ _ b hb => ?_⟩
    · rw [lastw_none fun j _ hj => (hno j hj).elim, h0]
    · rw [lastw_none fun j _ hj => (hno j hj).elim, h0]
    · refine hI.dom b ?_
      simp only [res, List.mem_cons, List.not_mem_nil, or_false] at hb
      omega
def toExit : Out → Exit
  | .norm => .normal
  | .exit i => .exit i
  | .ret => .ret
/-- what follows the code serves what is asked behind it -/
def CK (w0 : World) (O : Nat → Prop) (FB : Nat → Option Pl) (SB : Nat → Prop) (wB : World) (r : R0) (K : Kont R0) (Q : Exit → Act → World → Prop) : Prop :=
  ∀ o s m a w, St w0 O FB SB wB s m a w → K o s m = some r → Q (toExit o) a w
theorem codeE_sound (hτ : TOK P τ) (hΓ : GamOk P Γ) (hm : P.follows .mixedOrders = true) (hFB : ∀ b, q ≤ b → FB b = none) {J : List Nat} {k : Nat} {r : R0} : ∀ (c : Code) {K : Kont R0} {Q : Exit → Act → World → Prop} {s : List V} {m : Mem} {a : Act} {w : World},
    CK w0 O FB SB wB r K Q → St w0 O FB SB wB s m a w → codeE τ Γ J q k c K s m = some r → c.wp P Q a w
  | .skip, K, Q, s, m, a, w, hC, hs, h => wp_skip (hC .norm _ _ _ _ hs h)
  | .region id ops false, K, Q, s, m, a, w, hC, hs, h => by
    refine wp_region ?_
    have := regionE_sound hτ hΓ (Q := Q) (K := K .norm) (fun s m a w hs h => hC .norm s m a w hs h) ops.toList 0 (fun j => by simp) hs h
    rw [List.range_eq_range']
    simpa using this
  | .region id ops true, K, Q, s, m, a, w, hC, hs, h => regionD_sound hτ hΓ hm hFB hs h fun s m a w hs h => hC .norm s m a w hs h
  | .seq x y, K, Q, s, m, a, w, hC, hs, h => by
    refine wp_seq (codeE_sound hτ hΓ hm hFB x (K := seqK (codeE τ Γ J q k y K) K) (fun o s m a w hs h => ?_) hs h)
    cases o with
    | norm => exact codeE_sound hτ hΓ hm hFB y hC hs h
    | exit i => exact hC (.exit i) s m a w hs h
    | ret => exact hC .ret s m a w hs h
  | .cond (.tmp c) x y, K, Q, s, m, a, w, hC, hs, h => by
    have h' : (match isTrue (s.getD c .junk) with
      | some b => bif b then codeE τ Γ J q k x K (s.set c (.d .bool true)) m else codeE τ Γ J q k y K (s.set c (.d .bool false)) m
      | none => none) = some r := h
    split at h'
    · rename_i b hb
      have hset := set_same hb
      have hev : a.eval (.tmp c) = .bool b := by
        obtain ⟨_, F, S, hr, _, _⟩ := hs
        have := hr.slot c
        rw [isTrue_some hb] at this
        exact this.bool_inv
      refine wp_cond hev ?_
      cases b
      · simp only [cond_false, hset] at h'
        exact codeE_sound hτ hΓ hm hFB y hC hs h'
      · simp only [cond_true, hset] at h'
        exact codeE_sound hτ hΓ hm hFB x hC hs h'
    · cases h'
  | .block id c, K, Q, s, m, a, w, hC, hs, h => by
    refine wp_block (codeE_sound hτ hΓ hm hFB c (K := blockK id K) (fun o s m a w hs h => ?_) hs h)
    cases o with
    | norm => exact hC .norm s m a w hs h
    | exit i =>
      have h' : (bif i == id then K .norm s m else K (.exit i) s m) = some r := h
      show (if i = id then Q .normal a w else Q (.exit i) a w)
      by_cases hi : i = id
      · subst hi
        rw [if_pos rfl]
        simp only [beq_self_eq_true, cond_true] at h'
        exact hC .norm s m a w hs h'
      · rw [if_neg hi]
        have : (i == id) = false := by simpa using hi
        rw [this] at h'
        exact hC (.exit i) s m a w hs h'
    | ret => exact hC .ret s m a w hs h
  | .loop c, K, Q, s, m, a, w, hC, hs, h => by
    have hclr : ∀ {s m a w}, St w0 O FB SB wB s m a w → St w0 O FB SB wB (clr J s) m a w := fun ⟨hd, F, S, hr, hI, hk⟩ => ⟨hd, F, S, clr_sound J hr, hI, hk⟩
    obtain ⟨s1, m1, hs1, h1⟩ := gc_sound hFB (hclr hs) h
    refine wp_loop_ghost (fun n a w => ∃ s m, St w0 O FB SB wB s m a w ∧ iter n (fun rec => codeE τ Γ J q k c (seqK (fun s m => gc q (clr J s) m rec) K)) s m = some r) k ⟨s1, m1, hs1, h1⟩ ?_
    rintro n a w ⟨s, m, hs, h⟩
    cases n with
    | zero => cases h
    | succ n =>
      refine codeE_sound hτ hΓ hm hFB c (K := seqK (fun s m => gc q (clr J s) m (iter n fun rec => codeE τ Γ J q k c (seqK (fun s m => gc q (clr J s) m rec) K))) K) (fun o s m a w hs h => ?_) hs h
      cases o with
      | norm =>
        obtain ⟨s2, m2, hs2, h2⟩ := gc_sound hFB (hclr hs) h
        exact ⟨n, Nat.lt_succ_self n, s2, m2, hs2, h2⟩
      | exit i => exact hC (.exit i) s m a w hs h
      | ret => exact hC .ret s m a w hs h
  | .exit i, K, Q, s, m, a, w, hC, hs, h => wp_exit (hC (.exit i) s m a w hs h)
  | .ret, K, Q, s, m, a, w, hC, hs, h => wp_ret (hC .ret s m a w hs h)
  | .cond (.const _) _ _, K, Q, s, m, a, w, hC, hs, h => by cases h
  | .cond (.global _) _ _, K, Q, s, m, a, w, hC, hs, h => by cases h
  | .cond (.func _) _ _, K, Q, s, m, a, w, hC, hs, h => by cases h
  | .rangeFunc _ _ _ _, K, Q, s, m, a, w, hC, hs, h => by cases h
  | .scope _, K, Q, s, m, a, w, hC, hs, h => by cases h
  | .label _, K, Q, s, m, a, w, hC, hs, h => by cases h
  | .goto _, K, Q, s, m, a, w, hC, hs, h => by cases h
/-! ## a function -/
def resOne (tmps : Array Value) : ResultVar → Sem Value
  | .tmp t => pure (tmps.getD t undef)
  | .cell a t => do loadVar t (← asAddr (tmps.getD a undef))
theorem resL_sound (hτ : TOK P τ) {F : Nat → Option Pl} {S : Nat → Prop} {m : Mem} {w : World} {s : List V} {a : Act} (hI : Inv w0 O F S w m) (hr : SR F S w s a) : ∀ {rs : List ResultVar} {K : List V → Option R0} {r : R0}, resL τ s m rs K = some r →
    ∃ vs us, (rs.mapM (resOne a.tmps)).run P w = .ok us w ∧ VReps F S w vs us ∧ K vs = some r
  | [], K, r, h => ⟨[], [], rfl, .nil, h⟩
  | .tmp t :: rs, K, r, h => by
    obtain ⟨vs, us, h1, h2, h3⟩ := resL_sound hτ hI hr (K := fun vs => K (s.getD t .junk :: vs)) h
    refine ⟨_, a.tmps.getD t undef :: us, ?_, .cons (hr.slot t) h2, h3⟩
    simp [List.mapM_cons, resOne, h1]
  | .cell b t :: rs, K, r, h => by
    have hl : loadV m (τ t) (s.getD b .junk) (fun v => resL τ s m rs fun vs => K (v :: vs)) = some r := h
    obtain ⟨v, u, h1, h2, h3⟩ := loadV_sound hτ hI (hr.slot b) hl
    obtain ⟨vs, us, g1, g2, g3⟩ := resL_sound hτ hI hr h3
    refine ⟨v :: vs, u :: us, ?_, .cons h2 g2, g3⟩
    have hp : ∃ ad, a.tmps.getD b undef = .pointer (some ad) := by
      have hsl := hr.slot b
      unfold loadV at hl
      split at hl
      · rename_i hv
        rw [hv] at hsl
        cases hp : a.tmps.getD b undef <;> rw [hp] at hsl <;> cases hsl
        exact ⟨_, rfl⟩
      · rename_i hv
        rw [hv] at hsl
        obtain ⟨p, _, _, _, hp⟩ := hsl.eo_inv
        exact ⟨_, hp⟩
      · rename_i hv
        rw [hv] at hsl
        obtain ⟨p, _, hp⟩ := hsl.ref_inv
        exact ⟨_, hp⟩
      · cases hl
    obtain ⟨ad, hp⟩ := hp
    have h1' : (loadVar t ad).run P w = .ok u w := by
      rw [hp] at h1
      simpa [Instr.loadAt, Instr.sureAddr] using h1
    have hone : (resOne a.tmps (.cell b t)).run P w = .ok u w := by
      simp only [resOne, hp, asAddr]
      simpa using h1'
    simp [List.mapM_cons, hone, g1]
theorem funE_sound (hτ : TOK P τ) (hΓ : GamOk P Γ) (hm : P.follows .mixedOrders = true) {J : List Nat} {k : Nat} {g : FuncId} {fn : Func} {c : Code} (hf : P.funcs[g]? = some fn) (hb : fn.body = some c) {K : V → Mem → Option R0} {r : R0}
    {F : Nat → Option Pl} {S : Nat → Prop} {w : World} {m : Mem} {args : List V} {us : List Value} (hI : Inv w0 O F S w m) (ha : VReps F S w args us) (h : funE τ Γ J q k fn args m K = some r) :
    Calls P g us.toArray w fun e w' => match e with
      | .returned u => ∃ v m' F' S', VRep F' S' w' v u ∧ Inv w0 O F' S' w' m' ∧ Keep (fun b => if b < q then F b else none) S w F' S' w' ∧ K v m' = some r
      | _ => False := by
  refine calls_of_wp hf hb ?_
  have hs : St w0 O (fun b => if b < q then F b else none) S w (args ++ List.replicate (fn.ntmps - args.length) .junk) m { tmps := us.toArray ++ Array.replicate (fn.ntmps - us.toArray.size) undef, defers := [] } w := by
    refine ⟨rfl, F, S, ?_, hI, ⟨fun b p hb => ?_, fun _ h => h, fun _ _ => rfl⟩⟩
    · have : VReps F S w (List.replicate (fn.ntmps - args.length) .junk) (List.replicate (fn.ntmps - us.length) undef) := ⟨by simp [ha.len], fun i v u hv hu => by
        rw [List.getElem?_replicate] at hv
        split at hv
        · cases hv; exact .junk
        · cases hv⟩
      have he : ({ tmps := us.toArray ++ Array.replicate (fn.ntmps - us.toArray.size) undef, defers := [] } : Act).tmps.toList = us ++ List.replicate (fn.ntmps - us.length) undef := by simp
      show VReps F S w _ _
      rw [he]
      exact ha.append this
    · split at hb
      · exact hb
      · cases hb
  unfold funE at h
  have hbody : bodyOf fn = c := by simp [bodyOf, hb]
  rw [hbody] at h
  refine codeE_sound (q := q) hτ hΓ hm (fun b hb => if_neg (by omega)) c (K := endK τ fn K) (fun o s m' a w' hs h => ?_) hs h
  obtain ⟨hd, F', S', hr, hI', hk⟩ := hs
  have key : resE τ fn s m' K = some r → a.defers = [] ∧ ∃ v, (results fn a.tmps).run P w' = .ok v w' ∧ ∃ v' m' F' S', VRep F' S' w' v' v ∧ Inv w0 O F' S' w' m' ∧ Keep (fun b => if b < q then F b else none) S w F' S' w' ∧ K v' m' = some r := by
    intro h
    refine ⟨hd, ?_⟩
    unfold resE at h
    obtain ⟨vs, us', h1, h2, h3⟩ := resL_sound hτ hI' hr h
    have hres : ∀ v, (if h : us'.toArray.size = 1 then us'.toArray[0] else .tuple us'.toArray) = v → (results fn a.tmps).run P w' = .ok v w' := by
      rintro v rfl
      have hm : (fn.results.mapM (resOne a.tmps)).run P w' = .ok us'.toArray w' := by
        rw [Array.mapM_eq_mapM_toList]
        simp [h1]
      have he : results fn a.tmps = (do let vs ← fn.results.mapM (resOne a.tmps); pure (if h : vs.size = 1 then vs[0] else .tuple vs)) := by
        unfold results
        congr 1
      rw [he, Sem.run_bind, hm]
      rfl
    split at h3
    · rename_i v
      obtain ⟨u, us2, rfl, hv, hn⟩ := h2.head
      have := hn.nil_inv
      subst this
      exact ⟨u, hres u (by simp), v, m', F', S', hv, hI', hk, h3⟩
    · rename_i hne
      have hsz : us'.length ≠ 1 := by
        intro e
        rw [← h2.len] at e
        match vs, e with
        | [v], _ => exact hne v rfl
      exact ⟨.tuple us'.toArray, hres _ (by simp [hsz]), .tup vs, m', F', S', .tup (by simpa using h2.len) (fun i v u hv hu => h2.at_ i v u hv (by simpa using hu)), hI', hk, h3⟩
  cases o with
  | norm => exact key h
  | exit i => cases h
  | ret => exact key h
end
end Go.Vi

/-
  Vi, part 24: functions that read data and answer data: what is known of them, and how it is used where they are called.
-/
namespace Go.Vi
open Go
@[reducible] def Ds : List Ty → Type
  | [] => Unit
  | t :: ts => t.D × Ds ts
def dV : (ts : List Ty) → Ds ts → List V
  | [], _ => []
  | t :: ts, x => .d t x.1 :: dV ts x.2
def aggV : V → Bool
  | .agg _ => true
  | .d t _ => t.isAgg
  | _ => false
def rdV (t : Ty) (v : V) : Option t.D := if aggV v = t.isAgg then rd t v else none
def takeDs : (ts : List Ty) → Mem → List V → Option (Ds ts × Mem)
  | [], m, [] => some ((), m)
  | t :: ts, m, v :: vs => match rdV t (takeV m v).1 with
    | none => none
    | some x => match takeDs ts (takeV m v).2 vs with
      | none => none
      | some y => some ((x, y.1), y.2)
  | _, _, _ => none
/-- what a function's results are, to its caller -/
def outV : (ts : List Ty) → Ds ts → V
  | [t], x => .d t x.1
  | ts, x => .tup (dV ts x)
def outL : List Ty → V → Option (List V)
  | [_], v => some [v]
  | _, .tup vs => some vs
  | _, _ => none
/-- what follows the body of such a function -/
def Kout (rts : List Ty) (v : V) (m : Mem) : Option R0 := match outL rts v with
  | some vs => match takeDs rts m vs with
    | some y => some (outV rts y.1, [])
    | none => none
  | none => none
structure PC where
  ts : List Ty
  rts : List Ty
  pre : Ds ts → Bool
  f : Ds ts → Ds rts
def PC.run {R : Type} (c : PC) (m : Mem) (args : List V) (K : V → Mem → Option R) : Option R := match takeDs c.ts m args with
  | some y => chk (c.pre y.1) (K (outV c.rts (c.f y.1)) y.2)
  | none => none
def gam (table : FuncId → Option PC) : Gam R0 := fun g _ args m K => match table g with
  | some c => c.run m args K
  | none => none
section
variable {F : Nat → Option Pl} {S : Nat → Prop} {w w0 : World} {O : Nat → Prop} {m : Mem} {P : Program} {τ : Tau} {Γ : Gam R0}
/-- values that stand for data -/
def DReps (S : Nat → Prop) (w : World) : (ts : List Ty) → Ds ts → List Value → Prop
  | [], _, us => us = []
  | t :: ts, x, us => ∃ u us', us = u :: us' ∧ (∀ F, VRep F S w (.d t x.1) u) ∧ DReps S w ts x.2 us'
theorem DReps.keep {S' : Nat → Prop} {w' : World} (hS : ∀ g, S g → S' g) (hw : ∀ g, S g → w'.heap[g]? = w.heap[g]?) : ∀ {ts : List Ty} {x : Ds ts} {us : List Value}, DReps S w ts x us → DReps S' w' ts x us
  | [], _, _, h => h
  | t :: ts, x, us, h => by
    obtain ⟨u, us', rfl, h1, h2⟩ := h
    exact ⟨u, us', rfl, fun F => (h1 F).keep ⟨fun _ _ h => h, hS, hw⟩, h2.keep hS hw⟩
theorem DReps.reps {ts : List Ty} {x : Ds ts} {us : List Value} (h : DReps S w ts x us) (F : Nat → Option Pl) : VReps F S w (dV ts x) us := by
  induction ts generalizing us with
  | nil => rw [show us = [] from h]; exact .nil
  | cons t ts ih =>
    obtain ⟨u, us', rfl, h1, h2⟩ := h
    exact .cons (h1 F) (ih h2)
theorem VRep.d_any {F' : Nat → Option Pl} {t : Ty} {x : t.D} {u : Value} (h : VRep F S w (.d t x) u) : VRep F' S w (.d t x) u := by
  cases h with
  | d h => exact .d h
theorem DReps.of_reps {ts : List Ty} {x : Ds ts} {us : List Value} (h : VReps F S w (dV ts x) us) : DReps S w ts x us := by
  induction ts generalizing us with
  | nil => exact h.nil_inv
  | cons t ts ih =>
    obtain ⟨u, us', rfl, h1, h2⟩ := h.head
    exact ⟨u, us', rfl, fun F => h1.d_any, ih h2⟩
theorem rdV_rep {t : Ty} {v : V} {u : Value} {x : t.D} (h : VRep F S w v u) (hx : rdV t v = some x) : VRep F S w (.d t x) u := by
  obtain ⟨ha, hx⟩ := ite_some hx
  have hr := rd_rep h hx
  have hu : u = valOf t u.cells.toList := by
    cases h with
    | d h =>
      rename_i t' x' cs _
      have ha' : t.isAgg = t'.isAgg := ha.symm
      unfold valOf
      rw [ha']
      by_cases ht : t'.isAgg = true
      · rw [if_pos ht, if_pos ht]
        simp [Value.cells]
      · rw [if_neg ht, if_neg ht]
        have h1 := h.len
        have h2 := h.one
        have h3 : t'.sz = 1 := by cases t' <;> simp [Ty.isAgg] at ht <;> rfl
        match cs, h1 with
        | [c], _ =>
          have := h2 c (by simp)
          cases c <;> first | rfl | cases this
        | [], h1 => rw [h3] at h1; cases h1
        | _ :: _ :: _, h1 => rw [h3] at h1; cases h1
    | agg =>
      have ha' : t.isAgg = true := ha.symm
      unfold valOf
      rw [ha', if_pos rfl]
      simp [Value.cells]
    | tup => simp [rd, V.plain] at hx
    | junk => simp [rd, V.plain] at hx
    | _ =>
      have ha' : t.isAgg = false := ha.symm
      unfold valOf
      rw [ha']
      rfl
  rw [hu]
  exact .d hr
theorem takeDs_sound : ∀ {ts : List Ty} {vs : List V} {us : List Value} {S : Nat → Prop} {m m' : Mem} {x : Ds ts}, Inv w0 O F S w m → VReps F S w vs us → takeDs ts m vs = some (x, m') →
    ∃ S', Inv w0 O F S' w m' ∧ Keep F S w F S' w ∧ DReps S' w ts x us
  | [], [], us, S, m, m', x, hI, h, ht => by
    simp only [takeDs, Option.some.injEq, Prod.mk.injEq] at ht
    obtain ⟨_, rfl⟩ := ht
    exact ⟨S, hI, .refl _ _ _, h.nil_inv⟩
  | t :: ts, v :: vs, us, S, m, m', x, hI, h, ht => by
    obtain ⟨u, us', rfl, h0, h1⟩ := h.head
    obtain ⟨S1, i1, k1, r1⟩ := takeV_sound hI h0
    simp only [takeDs] at ht
    split at ht
    · cases ht
    · rename_i y hy
      split at ht
      · cases ht
      · rename_i z hz
        cases ht
        obtain ⟨S2, i2, k2, d2⟩ := takeDs_sound i1 (h1.keep k1) hz
        have hd := rdV_rep r1 hy
        exact ⟨S2, i2, k1.trans k2, u, us', rfl, fun F' => (hd.keep k2).d_any, d2⟩
  | [], v :: vs, us, S, m, m', x, hI, h, ht => by cases ht
  | t :: ts, [], us, S, m, m', x, hI, h, ht => by cases ht
theorem outV_rep {rts : List Ty} {y : Ds rts} {v : V} {u : Value} {vs : List V} (hv : VRep F S w v u) (ho : outL rts v = some vs) : ∃ us, VReps F S w vs us ∧ ∀ {S' : Nat → Prop} {w' : World}, DReps S' w' rts y us → ∀ F', VRep F' S' w' (outV rts y) u := by
  unfold outL at ho
  split at ho
  · cases ho
    rename_i t
    refine ⟨[u], .cons hv .nil, fun h F' => ?_⟩
    obtain ⟨u', us', he, h1, _⟩ := h
    cases he
    exact h1 F'
  · rename_i vs' hne
    cases ho
    obtain ⟨us, rfl, hr⟩ := hv.tup_inv
    refine ⟨us.toList, hr, fun h F' => ?_⟩
    have hr' := h.reps F'
    have : outV rts y = .tup (dV rts y) := by
      match rts, hne with
      | [t], hne => exact (hne t rfl).elim
      | [], _ => rfl
      | _ :: _ :: _, _ => rfl
    rw [this]
    have h2 := VRep.tup (us := us) (by simpa using hr'.len) (fun i v u hv hu => hr'.at_ i v u hv (by simpa using hu))
    exact h2
  · cases ho
/-- a function that reads data and answers data, called with memory of which it sees nothing but those data -/
theorem pc_calls (hτ : TOK P τ) (hΓ : GamOk P Γ) (hm : P.follows .mixedOrders = true) {c : PC} {J : List Nat} {k : Nat} {g : FuncId} {fn : Func} {body : Code} (hf : P.funcs[g]? = some fn) (hb : fn.body = some body)
    {x : Ds c.ts} {y : Ds c.rts} (hfun : funE τ Γ J 0 k fn (dV c.ts x) [] (Kout c.rts) = some (outV c.rts y, [])) {us : List Value} (hs : ∀ g, S g → g < w.heap.size) (hx : DReps S w c.ts x us) :
    Calls P g us.toArray w fun e w' => match e with
      | .returned u => ∃ S', (∀ F, VRep F S' w' (outV c.rts y) u) ∧ (∀ g, S g → S' g) ∧ (∀ g, S' g → g < w'.heap.size) ∧ (∀ g, S' g → g < w.heap.size → S g) ∧ w'.os = w.os ∧ w'.tape = w.tape ∧ w'.output = w.output ∧ w.heap.size ≤ w'.heap.size ∧ ∀ g, g < w.heap.size → w'.heap[g]? = w.heap[g]?
      | _ => False := by
  have hI : Inv w S (fun _ => none) S w [] := ⟨⟨rfl, rfl, rfl, Nat.le_refl _, fun _ _ _ => rfl⟩, fun _ _ => rfl, fun b x p h => by simp at h, fun b b' x x' p p' h => by simp at h, fun b x p h => by simp at h, hs, fun g hg _ => hg, fun b x h => by simp at h⟩
  refine (funE_sound hτ hΓ hm hf hb hI (hx.reps _) hfun).mono fun e w' he => ?_
  cases e with
  | panicked _ => exact he.elim
  | outgrown => exact he.elim
  | returned u =>
    obtain ⟨v, m', F', S', hv, hI', hk, hK⟩ := he
    unfold Kout at hK
    split at hK
    · rename_i vs ho
      split at hK
      · rename_i z hz
        obtain ⟨us', hr, hout⟩ := outV_rep (y := z.1) hv ho
        obtain ⟨S2, i2, k2, d2⟩ := takeDs_sound hI' hr hz
        have hzy : outV c.rts z.1 = outV c.rts y := by
          have := Option.some.inj hK
          exact (Prod.mk.inj this).1
        refine ⟨S2, fun F => hzy ▸ hout d2 F, fun g hg => k2.s g (hk.s g hg), i2.sb, i2.so, i2.ext.os, i2.ext.tape, i2.ext.output, i2.ext.size, fun g hg => ?_⟩
        by_cases hSg : S g
        · rw [k2.h g (hk.s g hSg), hk.h g hSg]
        · exact i2.ext.block g hg hSg
      · cases hK
    · cases hK
/-- what such a call leaves -/
def DPost (S : Nat → Prop) (w : World) (rts : List Ty) (y : Ds rts) (u : Value) (w' : World) : Prop :=
  ∃ S', (∀ F, VRep F S' w' (outV rts y) u) ∧ (∀ g, S g → S' g) ∧ (∀ g, S' g → g < w'.heap.size) ∧ (∀ g, S' g → g < w.heap.size → S g) ∧ w'.os = w.os ∧ w'.tape = w.tape ∧ w'.output = w.output ∧ w.heap.size ≤ w'.heap.size ∧ ∀ g, g < w.heap.size → w'.heap[g]? = w.heap[g]?
def PCOk (P : Program) (g : FuncId) (c : PC) : Prop := ∀ (S : Nat → Prop) (w : World) (us : List Value) (x : Ds c.ts), (∀ g, S g → g < w.heap.size) → DReps S w c.ts x us → c.pre x = true → FCalls P g us.toArray w (DPost S w c.rts (c.f x))
theorem FCalls.mono {g : FuncId} {args : Array Value} {R R' : Value → World → Prop} (h : FCalls P g args w R) (hr : ∀ u w', R u w' → R' u w') : FCalls P g args w R' := by
  rcases h with ⟨h1, h2⟩ | ⟨u, w', h1, h2⟩
  · refine .inl ⟨h1, h2.mono fun e w' he => ?_⟩
    cases e with
    | returned u => exact hr u w' he
    | panicked c => exact he
    | outgrown => exact he
  · exact .inr ⟨u, w', h1, hr u w' h2⟩
theorem enter_run {g : FuncId} {fn : Func} {body : Code} (hf : P.funcs[g]? = some fn) (hb : fn.body = some body) (hn : (fn.name == "runtime.NumGoroutine") = false) (args : Array Value) (w : World) : (callFunc g args).run P w = .ok (.enter g args) w := by
  have hn' : ¬ fn.name = "runtime.NumGoroutine" := by simpa using hn
  simp [callFunc, hf, hb, hn']
theorem pc_ok (hτ : TOK P τ) (hΓ : GamOk P Γ) (hm : P.follows .mixedOrders = true) {c : PC} {J : List Nat} {k : Ds c.ts → Nat} {g : FuncId} {fn : Func} {body : Code} (hf : P.funcs[g]? = some fn) (hb : fn.body = some body) (hn : (fn.name == "runtime.NumGoroutine") = false)
    (hfun : ∀ x, c.pre x = true → funE τ Γ J 0 (k x) fn (dV c.ts x) [] (Kout c.rts) = some (outV c.rts (c.f x), [])) : PCOk P g c := by
  intro S w us x hs hx hp
  refine .inl ⟨enter_run hf hb hn _ w, (pc_calls hτ hΓ hm hf hb (hfun x hp) hs hx).mono fun e w' he => ?_⟩
  cases e with
  | returned u => exact he
  | panicked c => exact he
  | outgrown => exact he
theorem gam_ok {table : FuncId → Option PC} (h : ∀ g c, table g = some c → PCOk P g c) : GamOk P (gam table) := by
  refine ⟨fun g L args m K => ?_, fun g L args m v m' w0 O F S w us hg hI hL ha => ?_⟩
  · unfold gam
    split
    · unfold PC.run
      split
      · rename_i y hy
        cases hp : (_ : PC).pre y.1 <;> simp [chk, pr, K0]
      · rfl
    · rfl
  · unfold gam at hg
    split at hg
    · rename_i c hc
      unfold PC.run at hg
      split at hg
      · rename_i y hy
        obtain ⟨hp, hg⟩ := chk_some hg
        cases hg
        obtain ⟨S1, i1, k1, d1⟩ := takeDs_sound hI ha hy
        refine (h g c hc S1 w us y.1 i1.sb d1 hp).mono fun u w' hpost => ?_
        obtain ⟨S', hv, h1, h2, h3, e1, e2, e3, e4, e5⟩ := hpost
        have hkp : Keep F S1 w F S' w' := ⟨fun _ _ h => h, h1, fun g hg => e5 g (i1.sb g hg)⟩
        refine ⟨F, S', hv F, ?_, k1.trans hkp⟩
        have i2 := i1.world e1 e2 e3 e4 (fun g hg => e5 g (i1.sb g hg)) (fun b x p hm hf hx => e5 p.g (i1.out b x p hm hf hx).2.1) (fun g hg _ => e5 g (Nat.lt_of_lt_of_le hg i1.ext.size))
        refine ⟨i2.ext, i2.dom, fun b x p hm hf => BRep.keep ⟨fun _ _ h => h, h1, fun _ _ => rfl⟩ (fun _ => rfl) (i2.blk b x p hm hf), i2.sep, fun b x p hm hf hx => ?_, h2, fun g hg hlt => ?_, i2.is⟩
        · obtain ⟨q1, q2, q3⟩ := i2.out b x p hm hf hx
          exact ⟨fun hs => q1 (h3 _ hs (i1.out b x p hm hf hx).2.1), q2, q3⟩
        · exact i1.so g (h3 g hg (Nat.lt_of_lt_of_le hlt i1.ext.size)) hlt
      · cases hg
    · cases hg
end
end Go.Vi

/-
  Vi, part 25: the table of types, checked.
-/
namespace Go.Vi
open Go
def other : TI := ⟨0, 0, .other, none⟩
def lookT : List (TypeId × TI) → TypeId → TI
  | [], _ => other
  | x :: l, t => bif Nat.beq x.1 t then x.2 else lookT l t
def fieldsB (P : Program) : List (Nat × TypeId) → List Field → Bool
  | [], [] => true
  | x :: xs, f :: fs => Nat.beq x.1 f.offset && Nat.beq x.2 f.type && !Nat.beq (P.cellsOf f.type) 0 && fieldsB P xs fs
  | _, _ => false
def kindB (P : Program) (k : K) (d : Option TypeDesc) : Bool := match k, d with
  | .int k, some (.int k') => decide (k = k')
  | .bool, some .bool => true
  | .str, some .string => true
  | .sl te, some (.slice te') => Nat.beq te te'
  | .struct fs, some (.struct fields) => fieldsB P fs fields.toList
  | .ptr te, some (.pointer te') => Nat.beq te te'
  | .func, some (.func _ _ _) => true
  | _, _ => false
def isU8 : Option Ty → Bool
  | some (.int .u8) => true
  | _ => false
def zU8 : Option Value → Bool
  | some (.int .u8 0) => true
  | _ => false
def tiB (P : Program) (τ : Tau) (t : TypeId) : Bool := match P.info? t with
  | some i => Nat.beq i.size (τ t).sz && Nat.beq i.bytes (τ t).by_ && Nat.blt 0 (τ t).sz && Nat.blt 0 (τ t).by_ && kindB P (τ t).kind (P.underlying t) && ((τ t).agg || Nat.beq (τ t).sz 1) &&
    (match zeroC τ 20 t with
      | some cs => (match i.zero with
        | some z => zeroIs cs z.cells.toList && Nat.beq z.cells.size (τ t).sz
        | none => false)
      | none => true) &&
    (match isU8 (τ t).ty with
      | true => Nat.beq (τ t).by_ 1 && zU8 i.zero
      | false => true) &&
    (match (τ t).ty with
      | some e => Nat.beq e.sz (τ t).sz && (e.isAgg == (τ t).agg) && (match i.zero with
        | some z => zeroIs (cellsOf e e.zero) z.cells.toList
        | none => false)
      | none => true)
  | none => false
theorem fieldsB_spec {P : Program} : ∀ {fs : List (Nat × TypeId)} {fields : List Field}, fieldsB P fs fields = true → fs = fields.map (fun f => (f.offset, f.type)) ∧ ∀ f ∈ fields, P.cellsOf f.type ≠ 0
  | [], [], _ => ⟨rfl, by simp⟩
  | x :: xs, f :: fs, h => by
    simp only [fieldsB, Bool.and_eq_true] at h
    obtain ⟨⟨⟨h1, h2⟩, h3⟩, h4⟩ := h
    obtain ⟨e, h5⟩ := fieldsB_spec h4
    refine ⟨?_, ?_⟩
    · rw [e]
      have : x = (f.offset, f.type) := Prod.ext (Nat.eq_of_beq_eq_true h1) (Nat.eq_of_beq_eq_true h2)
      rw [this]
      rfl
    · intro g hg
      rcases List.mem_cons.1 hg with rfl | hg
      · intro e0
        rw [e0] at h3
        cases h3
      · exact h5 g hg
  | [], f :: fs, h => by cases h
  | x :: xs, [], h => by cases h
theorem tiB_spec {P : Program} {τ : Tau} {t : TypeId} (h : tiB P τ t = true) : TIok P τ t := by
  unfold tiB at h
  split at h
  · rename_i i hi
    simp only [Bool.and_eq_true] at h
    obtain ⟨⟨⟨⟨⟨⟨⟨⟨h1, h2⟩, h3⟩, h4⟩, h5⟩, h6⟩, h7⟩, h8⟩, h9⟩ := h
    refine ⟨⟨i, hi, Nat.eq_of_beq_eq_true h1, Nat.eq_of_beq_eq_true h2⟩, by simpa [Nat.blt_eq] using h3, by simpa [Nat.blt_eq] using h4, ?_, fun ha => ?_, fun cs hcs => ?_, fun hu => ?_, fun e he => ?_⟩
    · unfold kindB at h5
      split at h5
      · rename_i hk hd; rw [hk]; simp only [decide_eq_true_eq] at h5; subst h5; exact hd
      · rename_i hk hd; rw [hk]; exact hd
      · rename_i hk hd; rw [hk]; exact hd
      · rename_i hk hd; rw [hk]; rw [Nat.eq_of_beq_eq_true h5]; exact hd
      · rename_i hk hd
        rw [hk]
        obtain ⟨q1, q2⟩ := fieldsB_spec h5
        exact ⟨_, hd, q1, fun f hf => q2 f (by simpa using hf)⟩
      · rename_i hk hd; rw [hk]; rw [Nat.eq_of_beq_eq_true h5]; exact hd
      · rename_i hk hd; rw [hk]; exact ⟨_, _, _, hd⟩
      · cases h5
    · rw [ha] at h6
      exact Nat.eq_of_beq_eq_true (by simpa using h6)
    · rw [hcs] at h7
      simp only at h7
      split at h7
      · rename_i z hz
        rw [Bool.and_eq_true] at h7
        exact ⟨i, z, hi, hz, h7.1, Nat.eq_of_beq_eq_true h7.2⟩
      · cases h7
    · rw [hu] at h8
      simp only [isU8, Bool.and_eq_true] at h8
      refine ⟨Nat.eq_of_beq_eq_true h8.1, i, hi, ?_⟩
      have h10 := h8.2
      unfold zU8 at h10
      split at h10
      · assumption
      · cases h10
    · rw [he] at h9
      simp only [Bool.and_eq_true, beq_iff_eq] at h9
      obtain ⟨⟨q1, q2⟩, q3⟩ := h9
      refine ⟨Nat.eq_of_beq_eq_true q1, q2, ?_⟩
      split at q3
      · rename_i z hz; exact ⟨i, z, hi, hz, q3⟩
      · cases q3
  · cases h
theorem tok_of {P : Program} {tab : List (TypeId × TI)} (h : (tab.all fun x => tiB P (lookT tab) x.1) = true) : TOK P (lookT tab) := by
  intro t ht
  have key : ∀ l : List (TypeId × TI), (lookT l t).known = true → ∃ x ∈ l, x.1 = t := by
    intro l
    induction l with
    | nil => intro h; cases h
    | cons x l ih =>
      intro h
      simp only [lookT] at h
      cases hb : Nat.beq x.1 t with
      | true => exact ⟨x, by simp, Nat.eq_of_beq_eq_true hb⟩
      | false =>
        rw [hb] at h
        obtain ⟨y, hy, he⟩ := ih h
        exact ⟨y, by simp [hy], he⟩
  obtain ⟨x, hx, rfl⟩ := key tab ht
  rw [List.all_eq_true] at h
  exact tiB_spec (h x hx)
end Go.Vi
