/- Vi, part D: our own text, the same for every seat: a verified evaluator of the code over typed data. -/
import Derived.Test.YtopiinnggjcbnaaViC
import Derived.Deep.LoopGhost
import Derived.WalkKit
import Derived.ProofKit
import Derived.OpenShut
import Derived.ShutString
import Derived.ChangeOld
import Derived.Below
import Derived.Carry
import Derived.SizedLaws
import Derived.ChangeArms
/-
  Vi, part 23: code.
-/
namespace Go.Vi
open Go
section
variable {F : Nat → Option Pl} {S : Nat → Prop} {w w0 : World} {O : Nat → Prop} {m : Mem}
/-- a block told in another way -/
theorem Inv.reblk (hI : Inv w0 O F S w m) {b : Nat} {x y : Blk} (hm : m[b]? = some x) (hb : ∀ p, F b = some p → BRep F S w p y) (hh : ∀ p, y.hot p → x.hot p) (hx : x ≠ .dead) : Inv w0 O F S w (m.set b y) := by
  have hlt : b < m.length := (List.getElem?_eq_some_iff.1 hm).1
  have hin : ∀ {c : Nat} {z : Blk}, (m.set b y)[c]? = some z → (c = b ∧ z = y) ∨ (c ≠ b ∧ m[c]? = some z) := fun h => getElem?_set_dead h
  have key : ∀ {c : Nat} {z : Blk} {p : Pl}, (m.set b y)[c]? = some z → z.hot p → ∃ z', m[c]? = some z' ∧ z'.hot p := by
    intro c z p hc hz
    rcases hin hc with ⟨rfl, rfl⟩ | ⟨_, h⟩
    · exact ⟨x, hm, hh p hz⟩
    · exact ⟨z, h, hz⟩
  refine ⟨hI.ext, fun c hc => hI.dom c (by simpa using hc), fun c z p hc hp => ?_, fun c c' z z' p p' hc hc' hp hp' h h' hne => ?_, fun c z p hc hp h => ?_, hI.sb, hI.so, fun c z hc hz => ?_⟩
  · rcases hin hc with ⟨rfl, rfl⟩ | ⟨_, h⟩
    · exact hb p hp
    · exact hI.blk c z p h hp
  · obtain ⟨y1, g1, g2⟩ := key hc h
    obtain ⟨y2, g3, g4⟩ := key hc' h'
    exact hI.sep c c' y1 y2 p p' g1 g3 hp hp' g2 g4 hne
  · obtain ⟨y1, g1, g2⟩ := key hc h
    exact hI.out c y1 p g1 hp g2
  · rcases hin hc with ⟨rfl, rfl⟩ | ⟨_, h⟩
    · exact hI.is c x hm hx
    · exact hI.is c z h hz
theorem add_end (hI : Inv w0 O F S w m) {p : Pl} {x : Blk} (hfree : x.hot p → Free F m p.g) (hs : x.hot p → ¬ S p.g ∧ p.g < w.heap.size ∧ (O p.g ∨ w0.heap.size ≤ p.g)) (hb : BRep (placeF F m.length p) S w p x) :
    Inv w0 O (placeF F m.length p) S w (m ++ [x]) ∧ Keep F S w (placeF F m.length p) S w :=
  hI.add (by simp) (fun b hb => by
    by_cases h : b < m.length
    · exact List.getElem?_append_left h
    · rw [List.getElem?_eq_none (by simp; omega), List.getElem?_eq_none (by omega)]) (hI.dom _ (Nat.le_refl _)) hfree hs hb
theorem placeF_self (i : Nat) (p : Pl) : placeF F i p i = some p := by simp [placeF]
theorem cells_app {b : Nat} {cs : List V} {l : Mem} (h : m[b]? = some (.cells cs)) : (m ++ l)[b]? = some (.cells cs) := by
  rw [List.getElem?_append_left (List.getElem?_eq_some_iff.1 h).1]; exact h
theorem cells_set {b c : Nat} {cs : List V} {x y : Blk} (h : m[b]? = some (.cells cs)) (hc : m[c]? = some x) (hx : ∀ l, x ≠ .cells l) : (m.set c y)[b]? = some (.cells cs) := by
  rw [List.getElem?_set]
  split
  · rename_i e; subst e; rw [h] at hc; cases hc; exact (hx _ rfl).elim
  · exact h
end
section
variable {P : Program} {τ : Tau} {Γ : Gam R0} {w0 wB : World} {O : Nat → Prop} {FB : Nat → Option Pl} {SB : Nat → Prop} {q : Nat}
theorem Inv.more {F : Nat → Option Pl} {S : Nat → Prop} {w : World} {m : Mem} (hI : Inv w0 O F S w m) (k : Nat) : Inv w0 O F S w (m ++ List.replicate k .dead) := by
  have hin : ∀ {b : Nat} {x : Blk}, (m ++ List.replicate k .dead)[b]? = some x → x ≠ .dead → m[b]? = some x := by
    intro b x hx hne
    rcases Nat.lt_or_ge b m.length with h | h
    · rwa [List.getElem?_append_left h] at hx
    · rw [List.getElem?_append_right h, List.getElem?_replicate] at hx
      split at hx
      · cases hx; exact (hne rfl).elim
      · cases hx
  have hd : ∀ {p : Pl} {x : Blk}, x.hot p → x ≠ .dead := by rintro p x h rfl; exact h
  refine ⟨hI.ext, fun b hb => hI.dom b (by simp at hb; omega), fun b x p hx hp => ?_, fun b b' x x' p p' hx hx' hp hp' h h' => hI.sep b b' x x' p p' (hin hx (hd h)) (hin hx' (hd h')) hp hp' h h', fun b x p hx hp h => hI.out b x p (hin hx (hd h)) hp h, hI.sb, hI.so, fun b x hx hne => hI.is b x (hin hx hne) hne⟩
  by_cases hne : x = .dead
  · subst hne; trivial
  · exact hI.blk b x p (hin hx hne) hp
theorem rep_false (n j : Nat) : ¬ (Array.replicate n false).getD j false = true := by
  rw [Array.getD_eq_getD_getElem?, Array.getElem?_replicate]
  split <;> simp
theorem regionD_sound (hτ : TOK P τ) (hΓ : GamOk P Γ) (hm : P.follows .mixedOrders = true) (hFB : ∀ b, q ≤ b → FB b = none) {id : Nat} {ops : Array Oper} {Q : Exit → Act → World → Prop} {K : List V → Mem → Option R0} {r : R0} {s : List V} {m : Mem} {a : Act} {w : World}
    (hs : St w0 O FB SB wB s m a w) (h : regionD τ Γ ops q s m K = some r) (hQ : ∀ s m a w, St w0 O FB SB wB s m a w → K s m = some r → Q .normal a w) : (Code.region id ops true).wp P Q a w := by
  obtain ⟨hd, F, S, hr, hI, hk⟩ := hs
  obtain ⟨rs, st, hl, h0, hst, hb, hf, hg⟩ := drawE_run hΓ h
  have R : Run τ Γ ops m.length rs st := by
    refine ⟨by simpa using hl, fun i o ho => ?_, hb, by simpa using hf, by rw [h0]; simp, fun b h1 h2 => ?_⟩
    · have := hst i o (by simpa using ho)
      simpa using this
    · rw [h0]
      show (m ++ List.replicate (2 * ops.size) .dead)[b]? = some .dead
      rw [List.getElem?_append_right h1, List.getElem?_replicate, if_pos (by omega)]
  refine wp_region_any hm (draw_any (w0 := w0) (wB := wB) (O := O) (FB := FB) (SB := SB) hτ hΓ R (fun s1 m1 a1 w1 hs1 e1 e2 => ?_) ops.size _ _ _ (by simp) ?_ ?_ ?_)
  · subst e1 e2
    have hg' : gc q (st ops.size).1 (st ops.size).2 K = some r := by simpa using hg
    obtain ⟨s2, m2, h1, h2⟩ := gc_sound hFB hs1 hg'
    exact hQ _ _ _ _ h1 h2
  · unfold unl
    have := List.length_filter_le (fun i => !(Array.replicate ops.size false).getD i false) (List.range ops.size)
    simpa using this
  · intro i o ho hi
    exact (rep_false _ _ hi).elim
  · have hno : ∀ j, ¬ ((Array.replicate ops.size false).getD j false = true) := fun j hj => rep_false _ _ hj
    have hkw : Keep F S w F S { w with drawn := w.drawn + 1 } := ⟨fun _ _ h => h, fun _ h => h, fun _ _ => rfl⟩
    refine ⟨hd, s, m ++ List.replicate (2 * ops.size) .dead, F, S, VReps.keep hkw hr, (hI.more _).world (w' := { w with drawn := w.drawn + 1 }) rfl rfl rfl (Nat.le_refl _) (fun _ _ => rfl) (fun _ _ _ _ _ _ => rfl) (fun _ _ _ => rfl), hk.trans hkw, ⟨by rw [h0], fun t => ?_, by rw [h0], fun b => ?_⟩, fun j rj hrj _ _ b hb => ?_⟩
    · rw [lastw_none fun j _ hj => (hno j hj).elim, h0]
    · rw [lastw_none fun j _ hj => (hno j hj).elim, h0]
    · refine hI.dom b ?_
      simp only [res, List.mem_cons, List.not_mem_nil, or_false] at hb
      omega
theorem normO_sound {F : Nat → Option Pl} {S : Nat → Prop} {w : World} {m : Mem} {e : Ty} {a : Option TypeId} {v : V} {u : Value} (hI : Inv w0 O F S w m) (h0 : VRep F S w v u) :
    ∃ F', Inv w0 O F' S w (normO m e a v).2 ∧ Keep F S w F' S w ∧ VRep F' S w (normO m e a v).1 u ∧ ∀ (b : Nat) l, m[b]? = some (.cells l) → (normO m e a v).2[b]? = some (.cells l) := by
  unfold normO
  split
  · obtain ⟨ad, rfl⟩ := h0.nil_inv
    obtain ⟨i2, k2⟩ := add_end (p := ⟨0, 0, 0, e.sz, 0⟩) (x := .row e [] a) hI (fun h => absurd h (by simp [Blk.hot])) (fun h => absurd h (by simp [Blk.hot])) ⟨rfl, ⟨rfl, Nat.le_refl _⟩, fun _ => Nat.zero_le _, fun h => absurd h (by simp)⟩
    exact ⟨_, i2, k2, .own (p := ⟨0, 0, 0, e.sz, 0⟩) (placeF_self _ _) rfl (fun h => absurd h (by simp)), fun c l h => cells_app h⟩
  · rename_i b
    split
    · rename_i e' xs a' hm
      have hI' : Inv w0 O F S w (m.set b (.row e' xs none)) := hI.reblk hm (fun p hp => by
        obtain ⟨q1, q2, q3, q4⟩ := hI.blk b _ p hm hp
        refine ⟨q1, q2, fun h => (h rfl).elim, fun hc => ?_⟩
        obtain ⟨arr, T, fr, g1, g2, g3, g4, _⟩ := q4 hc
        exact ⟨arr, T, fr, g1, g2, g3, g4, fun te h => by cases h⟩) (fun p h => h) (by simp)
      exact ⟨F, hI', .refl _ _ _, h0, fun c l h => cells_set h hm (by simp)⟩
    · exact ⟨F, hI, .refl _ _ _, h0, fun _ _ h => h⟩
  · rename_i b n
    split
    · rename_i e' xs a' hm
      obtain ⟨p, ad, l, hf, ⟨hn0, hn1, hl⟩, hda, rfl⟩ := h0.own_inv
      obtain ⟨q1, q2, q3, q4⟩ := hI.blk b _ p hm hf
      have hpl : (pre xs (some n)).length = l := pre_len (n := some n) (by rw [← q2.1]; exact ⟨hn0, hn1, hl⟩)
      have hI1 := hI.kill b
      have hlen : m.length = (m.set b .dead).length := by simp
      have hI2 := add_end (p := { p with len := l }) (x := .row e' (pre xs (some n)) none) hI1 (fun hx => hI.free_kill (p := p) hm hf hx) (fun hx => hI.out b _ p hm hf hx) (by
        refine ⟨q1, ⟨hpl.symm, ?_⟩, fun h => (h rfl).elim, fun hc => ?_⟩
        · have := q2.2
          rw [hpl]; rw [← q2.1] at this; show l ≤ p.cap; omega
        · obtain ⟨arr, T, fr, g1, g2, g3, g4, _⟩ := q4 hc
          exact ⟨arr, T, fr, g1, g2, g3, fun i x hx => g4 i x (pre_get hx), fun te h => by cases h⟩)
      rw [← hlen] at hI2
      exact ⟨_, hI2.1, hI2.2, .own (p := { p with len := l }) (placeF_self _ _) rfl hda, fun c l' h => cells_app (cells_set h hm (by simp))⟩
    · exact ⟨F, hI, .refl _ _ _, h0, fun _ _ h => h⟩
  · exact ⟨F, hI, .refl _ _ _, h0, fun _ _ h => h⟩
theorem SR.set {F : Nat → Option Pl} {S : Nat → Prop} {w : World} {s : List V} {a : Act} (hr : SR F S w s a) {i : Nat} {v : V} (hv : ∀ u, a.tmps.getD i undef = u → VRep F S w v u) : SR F S w (s.set i v) a := by
  refine ⟨by simpa using hr.len, fun j x u hx hu => ?_⟩
  rw [List.getElem?_set] at hx
  split at hx
  · rename_i hj
    subst hj
    split at hx
    · cases hx
      refine hv u ?_
      have : a.tmps[i]? = some u := by simpa using hu
      simp [this]
    · cases hx
  · exact hr.at_ j x u hx hu
theorem VReps.setv {F : Nat → Option Pl} {S : Nat → Prop} {w : World} {vs : List V} {us : List Value} (h : VReps F S w vs us) {j : Nat} {v : V} (hv : ∀ u, us[j]? = some u → VRep F S w v u) : VReps F S w (vs.set j v) us := by
  refine ⟨by simpa using h.len, fun i x u hx hu => ?_⟩
  rw [List.getElem?_set] at hx
  split at hx
  · rename_i hj
    subst hj
    split at hx
    · cases hx; exact hv u hu
    · cases hx
  · exact h.at_ i x u hx hu
theorem VReps.getv {F : Nat → Option Pl} {S : Nat → Prop} {w : World} {vs : List V} {us : List Value} (h : VReps F S w vs us) (j : Nat) {u : Value} (hu : us[j]? = some u) : VRep F S w (vs.getD j .junk) u := by
  have hlt : j < vs.length := by rw [h.len]; exact (List.getElem?_eq_some_iff.1 hu).1
  rw [List.getD_eq_getElem?_getD, List.getElem?_eq_getElem hlt]
  exact h.at_ j _ u (List.getElem?_eq_getElem hlt) hu
theorem ownz_sound {a : Act} {w : World} {K : List V → Mem → Option R0} {r : R0} : ∀ {l : List HE} {s : List V} {m : Mem}, St w0 O FB SB wB s m a w → ownz τ l s m K = some r → ∃ s' m', St w0 O FB SB wB s' m' a w ∧ K s' m' = some r
  | [], s, m, hs, h => ⟨s, m, hs, h⟩
  | x :: l, s, m, hs, h => by
    simp only [ownz] at h
    split at h
    · cases h
    · rename_i e he
      generalize (bif x.app then some x.te else none) = q at h
      split at h
      · refine ownz_sound ?_ h
        obtain ⟨hd, F, S, hr, hI, hk⟩ := hs
        obtain ⟨F', i2, k2, v2, _⟩ := normO_sound (e := e) (a := q) hI (hr.slot x.slot)
        refine ⟨hd, F', S, SR.set (VReps.keep k2 hr) (fun u hu => by rw [← hu]; exact v2), i2, hk.trans k2⟩
      · rename_i j _
        split at h
        · rename_i b o hb
          split at h
          · rename_i cs hm
            refine ownz_sound ?_ h
            obtain ⟨hd, F, S, hr, hI, hk⟩ := hs
            have hrb := hr.slot x.slot
            rw [hb] at hrb
            obtain ⟨p, hF, _⟩ := hrb.ref_inv
            obtain ⟨ho, arr, T, hh, hrc, h1⟩ := hI.blk b _ p hm hF
            have hv : ∃ u, VRep F S w (cs.getD j .junk) u ∧ ∀ u', arr.toList[j]? = some u' → u' = u := by
              cases hu : arr.toList[j]? with
              | none =>
                refine ⟨undef, ?_, fun u' h => by cases h⟩
                have : cs[j]? = none := by
                  rw [List.getElem?_eq_none_iff] at hu ⊢
                  rw [hrc.len]; exact hu
                rw [List.getD_eq_getElem?_getD, this]; exact .junk
              | some u => exact ⟨u, hrc.getv j hu, fun u' h => by cases h; rfl⟩
            obtain ⟨u, hv, huu⟩ := hv
            obtain ⟨F', i2, k2, v2, c2⟩ := normO_sound (e := e) (a := q) hI hv
            have i3 := i2.reblk (y := .cells (cs.set j (normO m e q (cs.getD j .junk)).1)) (c2 b cs hm) (fun p' hp' => by
              rw [k2.f b p hF] at hp'
              cases hp'
              refine ⟨ho, arr, T, hh, (hrc.keep k2).setv (fun u' hu' => ?_), h1⟩
              rw [huu u' hu']; exact v2) (fun p h => h) (by simp)
            exact ⟨hd, F', S, VReps.keep k2 hr, i3, hk.trans k2⟩
          · exact ownz_sound hs h
        · rename_i cs hb
          refine ownz_sound ?_ h
          obtain ⟨hd, F, S, hr, hI, hk⟩ := hs
          have hrb := hr.slot x.slot
          rw [hb] at hrb
          obtain ⟨us, hus, hrc, h1⟩ := hrb.agg_inv
          have hv : ∃ u, VRep F S w (cs.getD j .junk) u ∧ ∀ u', us.toList[j]? = some u' → u' = u := by
            cases hu : us.toList[j]? with
            | none =>
              refine ⟨undef, ?_, fun u' h => by cases h⟩
              have : cs[j]? = none := by
                rw [List.getElem?_eq_none_iff] at hu ⊢
                rw [hrc.len]; exact hu
              rw [List.getD_eq_getElem?_getD, this]; exact .junk
            | some u => exact ⟨u, hrc.getv j hu, fun u' h => by cases h; rfl⟩
          obtain ⟨u, hv, huu⟩ := hv
          obtain ⟨F', i2, k2, v2, _⟩ := normO_sound (e := e) (a := q) hI hv
          refine ⟨hd, F', S, SR.set (VReps.keep k2 hr) (fun u0 hu0 => ?_), i2, hk.trans k2⟩
          rw [← hu0, hus]
          have := (hrc.keep k2).setv (j := j) (v := (normO m e q (cs.getD j .junk)).1) (fun u' hu' => by rw [huu u' hu']; exact v2)
          simpa using VRep.of_agg this (fun c hc => h1 c (by simpa using hc))
        · exact ownz_sound hs h
theorem head_sound (hFB : ∀ b, q ≤ b → FB b = none) {J : Hd} {s : List V} {m : Mem} {a : Act} {w : World} {K : List V → Mem → Option R0} {r : R0} (hs : St w0 O FB SB wB s m a w) (h : head τ J q s m K = some r) :
    ∃ s' m', St w0 O FB SB wB s' m' a w ∧ K s' m' = some r := by
  obtain ⟨hd, F, S, hr, hI, hk⟩ := hs
  obtain ⟨s1, m1, h1, h2⟩ := ownz_sound ⟨hd, F, S, clr_sound J.1 hr, hI, hk⟩ h
  exact gc_sound hFB h1 h2
def toExit : Out → Exit
  | .norm => .normal
  | .exit i => .exit i
  | .ret => .ret
/-- what follows the code serves what is asked behind it -/
def CK (w0 : World) (O : Nat → Prop) (FB : Nat → Option Pl) (SB : Nat → Prop) (wB : World) (r : R0) (K : Kont R0) (Q : Exit → Act → World → Prop) : Prop :=
  ∀ o s m a w, St w0 O FB SB wB s m a w → K o s m = some r → Q (toExit o) a w
theorem codeE_sound (hτ : TOK P τ) (hΓ : GamOk P Γ) (hm : P.follows .mixedOrders = true) (hFB : ∀ b, q ≤ b → FB b = none) {J : Hds} {k : Nat} {r : R0} : ∀ (i : Nat) (c : Code) {K : Kont R0} {Q : Exit → Act → World → Prop} {s : List V} {m : Mem} {a : Act} {w : World},
    CK w0 O FB SB wB r K Q → St w0 O FB SB wB s m a w → codeE τ Γ J q k i c K s m = some r → c.wp P Q a w
  | _, .skip, K, Q, s, m, a, w, hC, hs, h => wp_skip (hC .norm _ _ _ _ hs h)
  | _, .region id ops false, K, Q, s, m, a, w, hC, hs, h => by
    refine wp_region ?_
    have := regionE_sound hτ hΓ (Q := Q) (K := K .norm) (fun s m a w hs h => hC .norm s m a w hs h) ops.toList 0 (fun j => by simp) hs h
    rw [List.range_eq_range']
    simpa using this
  | _, .region id ops true, K, Q, s, m, a, w, hC, hs, h => regionD_sound hτ hΓ hm hFB hs h fun s m a w hs h => hC .norm s m a w hs h
  | i, .seq x y, K, Q, s, m, a, w, hC, hs, h => by
    refine wp_seq (codeE_sound hτ hΓ hm hFB i x (K := seqK (codeE τ Γ J q k i y K) K) (fun o s m a w hs h => ?_) hs h)
    cases o with
    | norm => exact codeE_sound hτ hΓ hm hFB i y hC hs h
    | exit i => exact hC (.exit i) s m a w hs h
    | ret => exact hC .ret s m a w hs h
  | i, .cond (.tmp c) x y, K, Q, s, m, a, w, hC, hs, h => by
    have h' : (match isTrue (s.getD c .junk) with
      | some b => bif b then codeE τ Γ J q k i x K (s.set c (.d .bool true)) m else codeE τ Γ J q k i y K (s.set c (.d .bool false)) m
      | none => none) = some r := h
    split at h'
    · rename_i b hb
      have hset := set_same hb
      have hev : a.eval (.tmp c) = .bool b := by
        obtain ⟨_, F, S, hr, _, _⟩ := hs
        have := hr.slot c
        rw [isTrue_some hb] at this
        exact this.bool_inv
      refine wp_cond hev ?_
      cases b
      · simp only [cond_false, hset] at h'
        exact codeE_sound hτ hΓ hm hFB i y hC hs h'
      · simp only [cond_true, hset] at h'
        exact codeE_sound hτ hΓ hm hFB i x hC hs h'
    · cases h'
  | _, .block id c, K, Q, s, m, a, w, hC, hs, h => by
    refine wp_block (codeE_sound hτ hΓ hm hFB id c (K := blockK id K) (fun o s m a w hs h => ?_) hs h)
    cases o with
    | norm => exact hC .norm s m a w hs h
    | exit i =>
      have h' : (bif i == id then K .norm s m else K (.exit i) s m) = some r := h
      show (if i = id then Q .normal a w else Q (.exit i) a w)
      by_cases hi : i = id
      · subst hi
        rw [if_pos rfl]
        simp only [beq_self_eq_true, cond_true] at h'
        exact hC .norm s m a w hs h'
      · rw [if_neg hi]
        have : (i == id) = false := by simpa using hi
        rw [this] at h'
        exact hC (.exit i) s m a w hs h'
    | ret => exact hC .ret s m a w hs h
  | i, .loop c, K, Q, s, m, a, w, hC, hs, h => by
    obtain ⟨s1, m1, hs1, h1⟩ := head_sound hFB hs h
    refine wp_loop_ghost (fun n a w => ∃ s m, St w0 O FB SB wB s m a w ∧ iter n (fun rec => codeE τ Γ J q k i c (seqK (fun s m => head τ (hdOf J i) q s m rec) K)) s m = some r) k ⟨s1, m1, hs1, h1⟩ ?_
    rintro n a w ⟨s, m, hs, h⟩
    cases n with
    | zero => cases h
    | succ n =>
      refine codeE_sound hτ hΓ hm hFB i c (K := seqK (fun s m => head τ (hdOf J i) q s m (iter n fun rec => codeE τ Γ J q k i c (seqK (fun s m => head τ (hdOf J i) q s m rec) K))) K) (fun o s m a w hs h => ?_) hs h
      cases o with
      | norm =>
        obtain ⟨s2, m2, hs2, h2⟩ := head_sound hFB hs h
        exact ⟨n, Nat.lt_succ_self n, s2, m2, hs2, h2⟩
      | exit i => exact hC (.exit i) s m a w hs h
      | ret => exact hC .ret s m a w hs h
  | _, .exit i, K, Q, s, m, a, w, hC, hs, h => wp_exit (hC (.exit i) s m a w hs h)
  | _, .ret, K, Q, s, m, a, w, hC, hs, h => wp_ret (hC .ret s m a w hs h)
  | _, .cond (.const _) _ _, K, Q, s, m, a, w, hC, hs, h => by cases h
  | _, .cond (.global _) _ _, K, Q, s, m, a, w, hC, hs, h => by cases h
  | _, .cond (.func _) _ _, K, Q, s, m, a, w, hC, hs, h => by cases h
  | _, .rangeFunc _ _ _ _, K, Q, s, m, a, w, hC, hs, h => by cases h
  | _, .scope _, K, Q, s, m, a, w, hC, hs, h => by cases h
  | _, .label _, K, Q, s, m, a, w, hC, hs, h => by cases h
  | _, .goto _, K, Q, s, m, a, w, hC, hs, h => by cases h
/-! ## a function -/
def resOne (tmps : Array Value) : ResultVar → Sem Value
  | .tmp t => pure (tmps.getD t undef)
  | .cell a t => do loadVar t (← asAddr (tmps.getD a undef))
theorem resL_sound (hτ : TOK P τ) {F : Nat → Option Pl} {S : Nat → Prop} {m : Mem} {w : World} {s : List V} {a : Act} (hI : Inv w0 O F S w m) (hr : SR F S w s a) : ∀ {rs : List ResultVar} {K : List V → Option R0} {r : R0}, resL τ s m rs K = some r →
    ∃ vs us, (rs.mapM (resOne a.tmps)).run P w = .ok us w ∧ VReps F S w vs us ∧ K vs = some r
  | [], K, r, h => ⟨[], [], rfl, .nil, h⟩
  | .tmp t :: rs, K, r, h => by
    obtain ⟨vs, us, h1, h2, h3⟩ := resL_sound hτ hI hr (K := fun vs => K (s.getD t .junk :: vs)) h
    refine ⟨_, a.tmps.getD t undef :: us, ?_, .cons (hr.slot t) h2, h3⟩
    simp [List.mapM_cons, resOne, h1]
  | .cell b t :: rs, K, r, h => by
    have hl : loadV m (τ t) (s.getD b .junk) (fun v => resL τ s m rs fun vs => K (v :: vs)) = some r := h
    obtain ⟨v, u, h1, h2, h3⟩ := loadV_sound hτ hI (hr.slot b) hl
    obtain ⟨vs, us, g1, g2, g3⟩ := resL_sound hτ hI hr h3
    refine ⟨v :: vs, u :: us, ?_, .cons h2 g2, g3⟩
    have hp : ∃ ad, a.tmps.getD b undef = .pointer (some ad) := by
      have hsl := hr.slot b
      unfold loadV at hl
      split at hl
      · rename_i hv
        rw [hv] at hsl
        cases hp : a.tmps.getD b undef <;> rw [hp] at hsl <;> cases hsl
        exact ⟨_, rfl⟩
      · rename_i hv
        rw [hv] at hsl
        obtain ⟨p, _, _, _, hp⟩ := hsl.eo_inv
        exact ⟨_, hp⟩
      · rename_i hv
        rw [hv] at hsl
        obtain ⟨p, _, hp⟩ := hsl.ref_inv
        exact ⟨_, hp⟩
      · cases hl
    obtain ⟨ad, hp⟩ := hp
    have h1' : (loadVar t ad).run P w = .ok u w := by
      rw [hp] at h1
      simpa [Instr.loadAt, Instr.sureAddr] using h1
    have hone : (resOne a.tmps (.cell b t)).run P w = .ok u w := by
      simp only [resOne, hp, asAddr]
      simpa using h1'
    simp [List.mapM_cons, hone, g1]
theorem funE_sound (hτ : TOK P τ) (hΓ : GamOk P Γ) (hm : P.follows .mixedOrders = true) {J : Hds} {k : Nat} {g : FuncId} {fn : Func} {c : Code} (hf : P.funcs[g]? = some fn) (hb : fn.body = some c) {K : V → Mem → Option R0} {r : R0}
    {F : Nat → Option Pl} {S : Nat → Prop} {w : World} {m : Mem} {args : List V} {us : List Value} (hI : Inv w0 O F S w m) (ha : VReps F S w args us) (h : funE τ Γ J q k fn args m K = some r) :
    Calls P g us.toArray w fun e w' => match e with
      | .returned u => ∃ v m' F' S', VRep F' S' w' v u ∧ Inv w0 O F' S' w' m' ∧ Keep (fun b => if b < q then F b else none) S w F' S' w' ∧ K v m' = some r
      | _ => False := by
  refine calls_of_wp hf hb ?_
  have hs : St w0 O (fun b => if b < q then F b else none) S w (args ++ List.replicate (fn.ntmps - args.length) .junk) m { tmps := us.toArray ++ Array.replicate (fn.ntmps - us.toArray.size) undef, defers := [] } w := by
    refine ⟨rfl, F, S, ?_, hI, ⟨fun b p hb => ?_, fun _ h => h, fun _ _ => rfl⟩⟩
    · have : VReps F S w (List.replicate (fn.ntmps - args.length) .junk) (List.replicate (fn.ntmps - us.length) undef) := ⟨by simp [ha.len], fun i v u hv hu => by
        rw [List.getElem?_replicate] at hv
        split at hv
        · cases hv; exact .junk
        · cases hv⟩
      have he : ({ tmps := us.toArray ++ Array.replicate (fn.ntmps - us.toArray.size) undef, defers := [] } : Act).tmps.toList = us ++ List.replicate (fn.ntmps - us.length) undef := by simp
      show VReps F S w _ _
      rw [he]
      exact ha.append this
    · split at hb
      · exact hb
      · cases hb
  unfold funE at h
  have hbody : bodyOf fn = c := by simp [bodyOf, hb]
  rw [hbody] at h
  refine codeE_sound (q := q) hτ hΓ hm (fun b hb => if_neg (by omega)) 0 c (K := endK τ fn K) (fun o s m' a w' hs h => ?_) hs h
  obtain ⟨hd, F', S', hr, hI', hk⟩ := hs
  have key : resE τ fn s m' K = some r → a.defers = [] ∧ ∃ v, (results fn a.tmps).run P w' = .ok v w' ∧ ∃ v' m' F' S', VRep F' S' w' v' v ∧ Inv w0 O F' S' w' m' ∧ Keep (fun b => if b < q then F b else none) S w F' S' w' ∧ K v' m' = some r := by
    intro h
    refine ⟨hd, ?_⟩
    unfold resE at h
    obtain ⟨vs, us', h1, h2, h3⟩ := resL_sound hτ hI' hr h
    have hres : ∀ v, (if h : us'.toArray.size = 1 then us'.toArray[0] else .tuple us'.toArray) = v → (results fn a.tmps).run P w' = .ok v w' := by
      rintro v rfl
      have hm : (fn.results.mapM (resOne a.tmps)).run P w' = .ok us'.toArray w' := by
        rw [Array.mapM_eq_mapM_toList]
        simp [h1]
      have he : results fn a.tmps = (do let vs ← fn.results.mapM (resOne a.tmps); pure (if h : vs.size = 1 then vs[0] else .tuple vs)) := by
        unfold results
        congr 1
      rw [he, Sem.run_bind, hm]
      rfl
    split at h3
    · rename_i v
      obtain ⟨u, us2, rfl, hv, hn⟩ := h2.head
      have := hn.nil_inv
      subst this
      exact ⟨u, hres u (by simp), v, m', F', S', hv, hI', hk, h3⟩
    · rename_i hne
      have hsz : us'.length ≠ 1 := by
        intro e
        rw [← h2.len] at e
        match vs, e with
        | [v], _ => exact hne v rfl
      exact ⟨.tuple us'.toArray, hres _ (by simp [hsz]), .tup vs, m', F', S', .tup (by simpa using h2.len) (fun i v u hv hu => h2.at_ i v u hv (by simpa using hu)), hI', hk, h3⟩
  cases o with
  | norm => exact key h
  | exit i => cases h
  | ret => exact key h
end
end Go.Vi

/-
  Vi, part 24: functions that read data and answer data: what is known of them, and how it is used where they are called.
-/
namespace Go.Vi
open Go
@[reducible] def Ds : List Ty → Type
  | [] => Unit
  | t :: ts => t.D × Ds ts
def dV : (ts : List Ty) → Ds ts → List V
  | [], _ => []
  | t :: ts, x => .d t x.1 :: dV ts x.2
def takeDs : (ts : List Ty) → Mem → List V → Option (Ds ts × Mem)
  | [], m, [] => some ((), m)
  | t :: ts, m, v :: vs => match rdV t (takeV m v).1 with
    | none => none
    | some x => match takeDs ts (takeV m v).2 vs with
      | none => none
      | some y => some ((x, y.1), y.2)
  | _, _, _ => none
/-- what a function's results are, to its caller -/
def outV : (ts : List Ty) → Ds ts → V
  | [t], x => .d t x.1
  | ts, x => .tup (dV ts x)
def outL : List Ty → V → Option (List V)
  | [_], v => some [v]
  | _, .tup vs => some vs
  | _, _ => none
/-- what follows the body of such a function -/
def Kout (rts : List Ty) (v : V) (m : Mem) : Option R0 := match outL rts v with
  | some vs => match takeDs rts m vs with
    | some y => some (outV rts y.1, [])
    | none => none
  | none => none
structure PC where
  ts : List Ty
  rts : List Ty
  pre : Ds ts → Bool
  f : Ds ts → Ds rts
def PC.run {R : Type} (c : PC) (m : Mem) (args : List V) (K : V → Mem → Option R) : Option R := match takeDs c.ts m args with
  | some y => chk (c.pre y.1) (K (outV c.rts (c.f y.1)) y.2)
  | none => none
def gam (table : FuncId → Option PC) : Gam R0 := fun g _ args m K => match table g with
  | some c => c.run m args K
  | none => none
section
variable {F : Nat → Option Pl} {S : Nat → Prop} {w w0 : World} {O : Nat → Prop} {m : Mem} {P : Program} {τ : Tau} {Γ : Gam R0}
/-- values that stand for data -/
def DReps (S : Nat → Prop) (w : World) : (ts : List Ty) → Ds ts → List Value → Prop
  | [], _, us => us = []
  | t :: ts, x, us => ∃ u us', us = u :: us' ∧ (∀ F, VRep F S w (.d t x.1) u) ∧ DReps S w ts x.2 us'
theorem DReps.keep {S' : Nat → Prop} {w' : World} (hS : ∀ g, S g → S' g) (hw : ∀ g, S g → w'.heap[g]? = w.heap[g]?) : ∀ {ts : List Ty} {x : Ds ts} {us : List Value}, DReps S w ts x us → DReps S' w' ts x us
  | [], _, _, h => h
  | t :: ts, x, us, h => by
    obtain ⟨u, us', rfl, h1, h2⟩ := h
    exact ⟨u, us', rfl, fun F => (h1 F).keep ⟨fun _ _ h => h, hS, hw⟩, h2.keep hS hw⟩
theorem DReps.reps {ts : List Ty} {x : Ds ts} {us : List Value} (h : DReps S w ts x us) (F : Nat → Option Pl) : VReps F S w (dV ts x) us := by
  induction ts generalizing us with
  | nil => rw [show us = [] from h]; exact .nil
  | cons t ts ih =>
    obtain ⟨u, us', rfl, h1, h2⟩ := h
    exact .cons (h1 F) (ih h2)
theorem VRep.d_any {F' : Nat → Option Pl} {t : Ty} {x : t.D} {u : Value} (h : VRep F S w (.d t x) u) : VRep F' S w (.d t x) u := by
  cases h with
  | d h => exact .d h
theorem DReps.of_reps {ts : List Ty} {x : Ds ts} {us : List Value} (h : VReps F S w (dV ts x) us) : DReps S w ts x us := by
  induction ts generalizing us with
  | nil => exact h.nil_inv
  | cons t ts ih =>
    obtain ⟨u, us', rfl, h1, h2⟩ := h.head
    exact ⟨u, us', rfl, fun F => h1.d_any, ih h2⟩
theorem takeDs_sound : ∀ {ts : List Ty} {vs : List V} {us : List Value} {S : Nat → Prop} {m m' : Mem} {x : Ds ts}, Inv w0 O F S w m → VReps F S w vs us → takeDs ts m vs = some (x, m') →
    ∃ S', Inv w0 O F S' w m' ∧ Keep F S w F S' w ∧ DReps S' w ts x us
  | [], [], us, S, m, m', x, hI, h, ht => by
    simp only [takeDs, Option.some.injEq, Prod.mk.injEq] at ht
    obtain ⟨_, rfl⟩ := ht
    exact ⟨S, hI, .refl _ _ _, h.nil_inv⟩
  | t :: ts, v :: vs, us, S, m, m', x, hI, h, ht => by
    obtain ⟨u, us', rfl, h0, h1⟩ := h.head
    obtain ⟨S1, i1, k1, r1⟩ := takeV_sound hI h0
    simp only [takeDs] at ht
    split at ht
    · cases ht
    · rename_i y hy
      split at ht
      · cases ht
      · rename_i z hz
        cases ht
        obtain ⟨S2, i2, k2, d2⟩ := takeDs_sound i1 (h1.keep k1) hz
        have hd := rdV_rep r1 hy
        exact ⟨S2, i2, k1.trans k2, u, us', rfl, fun F' => (hd.keep k2).d_any, d2⟩
  | [], v :: vs, us, S, m, m', x, hI, h, ht => by cases ht
  | t :: ts, [], us, S, m, m', x, hI, h, ht => by cases ht
theorem outV_rep {rts : List Ty} {y : Ds rts} {v : V} {u : Value} {vs : List V} (hv : VRep F S w v u) (ho : outL rts v = some vs) : ∃ us, VReps F S w vs us ∧ ∀ {S' : Nat → Prop} {w' : World}, DReps S' w' rts y us → ∀ F', VRep F' S' w' (outV rts y) u := by
  unfold outL at ho
  split at ho
  · cases ho
    rename_i t
    refine ⟨[u], .cons hv .nil, fun h F' => ?_⟩
    obtain ⟨u', us', he, h1, _⟩ := h
    cases he
    exact h1 F'
  · rename_i vs' hne
    cases ho
    obtain ⟨us, rfl, hr⟩ := hv.tup_inv
    refine ⟨us.toList, hr, fun h F' => ?_⟩
    have hr' := h.reps F'
    have : outV rts y = .tup (dV rts y) := by
      match rts, hne with
      | [t], hne => exact (hne t rfl).elim
      | [], _ => rfl
      | _ :: _ :: _, _ => rfl
    rw [this]
    have h2 := VRep.tup (us := us) (by simpa using hr'.len) (fun i v u hv hu => hr'.at_ i v u hv (by simpa using hu))
    exact h2
  · cases ho
/-- a function that reads data and answers data, called with memory of which it sees nothing but those data -/
theorem pc_calls (hτ : TOK P τ) (hΓ : GamOk P Γ) (hm : P.follows .mixedOrders = true) {c : PC} {J : Hds} {k : Nat} {g : FuncId} {fn : Func} {body : Code} (hf : P.funcs[g]? = some fn) (hb : fn.body = some body)
    {x : Ds c.ts} {y : Ds c.rts} (hfun : funE τ Γ J 0 k fn (dV c.ts x) [] (Kout c.rts) = some (outV c.rts y, [])) {us : List Value} (hs : ∀ g, S g → g < w.heap.size) (hx : DReps S w c.ts x us) :
    Calls P g us.toArray w fun e w' => match e with
      | .returned u => ∃ S', (∀ F, VRep F S' w' (outV c.rts y) u) ∧ (∀ g, S g → S' g) ∧ (∀ g, S' g → g < w'.heap.size) ∧ (∀ g, S' g → g < w.heap.size → S g) ∧ w'.os = w.os ∧ w'.tape = w.tape ∧ w'.output = w.output ∧ w.heap.size ≤ w'.heap.size ∧ ∀ g, g < w.heap.size → w'.heap[g]? = w.heap[g]?
      | _ => False := by
  have hI : Inv w S (fun _ => none) S w [] := ⟨⟨rfl, rfl, rfl, Nat.le_refl _, fun _ _ _ => rfl⟩, fun _ _ => rfl, fun b x p h => by simp at h, fun b b' x x' p p' h => by simp at h, fun b x p h => by simp at h, hs, fun g hg _ => hg, fun b x h => by simp at h⟩
  refine (funE_sound hτ hΓ hm hf hb hI (hx.reps _) hfun).mono fun e w' he => ?_
  cases e with
  | panicked _ => exact he.elim
  | outgrown => exact he.elim
  | returned u =>
    obtain ⟨v, m', F', S', hv, hI', hk, hK⟩ := he
    unfold Kout at hK
    split at hK
    · rename_i vs ho
      split at hK
      · rename_i z hz
        obtain ⟨us', hr, hout⟩ := outV_rep (y := z.1) hv ho
        obtain ⟨S2, i2, k2, d2⟩ := takeDs_sound hI' hr hz
        have hzy : outV c.rts z.1 = outV c.rts y := by
          have := Option.some.inj hK
          exact (Prod.mk.inj this).1
        refine ⟨S2, fun F => hzy ▸ hout d2 F, fun g hg => k2.s g (hk.s g hg), i2.sb, i2.so, i2.ext.os, i2.ext.tape, i2.ext.output, i2.ext.size, fun g hg => ?_⟩
        by_cases hSg : S g
        · rw [k2.h g (hk.s g hSg), hk.h g hSg]
        · exact i2.ext.block g hg hSg
      · cases hK
    · cases hK
/-- what such a call leaves -/
def DPost (S : Nat → Prop) (w : World) (rts : List Ty) (y : Ds rts) (u : Value) (w' : World) : Prop :=
  ∃ S', (∀ F, VRep F S' w' (outV rts y) u) ∧ (∀ g, S g → S' g) ∧ (∀ g, S' g → g < w'.heap.size) ∧ (∀ g, S' g → g < w.heap.size → S g) ∧ w'.os = w.os ∧ w'.tape = w.tape ∧ w'.output = w.output ∧ w.heap.size ≤ w'.heap.size ∧ ∀ g, g < w.heap.size → w'.heap[g]? = w.heap[g]?
def PCOk (P : Program) (g : FuncId) (c : PC) : Prop := ∀ (S : Nat → Prop) (w : World) (us : List Value) (x : Ds c.ts), (∀ g, S g → g < w.heap.size) → DReps S w c.ts x us → c.pre x = true → FCalls P g us.toArray w (DPost S w c.rts (c.f x))
theorem FCalls.mono {g : FuncId} {args : Array Value} {R R' : Value → World → Prop} (h : FCalls P g args w R) (hr : ∀ u w', R u w' → R' u w') : FCalls P g args w R' := by
  rcases h with ⟨h1, h2⟩ | ⟨u, w', h1, h2⟩
  · refine .inl ⟨h1, h2.mono fun e w' he => ?_⟩
    cases e with
    | returned u => exact hr u w' he
    | panicked c => exact he
    | outgrown => exact he
  · exact .inr ⟨u, w', h1, hr u w' h2⟩
theorem enter_run {g : FuncId} {fn : Func} {body : Code} (hf : P.funcs[g]? = some fn) (hb : fn.body = some body) (hn : (fn.name == "runtime.NumGoroutine") = false) (args : Array Value) (w : World) : (callFunc g args).run P w = .ok (.enter g args) w := by
  have hn' : ¬ fn.name = "runtime.NumGoroutine" := by simpa using hn
  simp [callFunc, hf, hb, hn']
theorem pc_ok (hτ : TOK P τ) (hΓ : GamOk P Γ) (hm : P.follows .mixedOrders = true) {c : PC} {J : Hds} {k : Ds c.ts → Nat} {g : FuncId} {fn : Func} {body : Code} (hf : P.funcs[g]? = some fn) (hb : fn.body = some body) (hn : (fn.name == "runtime.NumGoroutine") = false)
    (hfun : ∀ x, c.pre x = true → funE τ Γ J 0 (k x) fn (dV c.ts x) [] (Kout c.rts) = some (outV c.rts (c.f x), [])) : PCOk P g c := by
  intro S w us x hs hx hp
  refine .inl ⟨enter_run hf hb hn _ w, (pc_calls hτ hΓ hm hf hb (hfun x hp) hs hx).mono fun e w' he => ?_⟩
  cases e with
  | returned u => exact he
  | panicked c => exact he
  | outgrown => exact he
theorem gam_ok {table : FuncId → Option PC} (h : ∀ g c, table g = some c → PCOk P g c) : GamOk P (gam table) := by
  refine ⟨fun g L args m K => ?_, fun g L args m v m' w0 O F S w us hg hI hL ha => ?_⟩
  · unfold gam
    split
    · unfold PC.run
      split
      · rename_i y hy
        cases hp : (_ : PC).pre y.1 <;> simp [chk, pr, K0]
      · rfl
    · rfl
  · unfold gam at hg
    split at hg
    · rename_i c hc
      unfold PC.run at hg
      split at hg
      · rename_i y hy
        obtain ⟨hp, hg⟩ := chk_some hg
        cases hg
        obtain ⟨S1, i1, k1, d1⟩ := takeDs_sound hI ha hy
        refine (h g c hc S1 w us y.1 i1.sb d1 hp).mono fun u w' hpost => ?_
        obtain ⟨S', hv, h1, h2, h3, e1, e2, e3, e4, e5⟩ := hpost
        have hkp : Keep F S1 w F S' w' := ⟨fun _ _ h => h, h1, fun g hg => e5 g (i1.sb g hg)⟩
        refine ⟨F, S', hv F, ?_, k1.trans hkp⟩
        have i2 := i1.world e1 e2 e3 e4 (fun g hg => e5 g (i1.sb g hg)) (fun b x p hm hf hx => e5 p.g (i1.out b x p hm hf hx).2.1) (fun g hg _ => e5 g (Nat.lt_of_lt_of_le hg i1.ext.size))
        refine ⟨i2.ext, i2.dom, fun b x p hm hf => BRep.keep ⟨fun _ _ h => h, h1, fun _ _ => rfl⟩ (fun _ => rfl) (i2.blk b x p hm hf), i2.sep, fun b x p hm hf hx => ?_, h2, fun g hg hlt => ?_, i2.is⟩
        · obtain ⟨q1, q2, q3⟩ := i2.out b x p hm hf hx
          exact ⟨fun hs => q1 (h3 _ hs (i1.out b x p hm hf hx).2.1), q2, q3⟩
        · exact i1.so g (h3 g hg (Nat.lt_of_lt_of_le hlt i1.ext.size)) hlt
      · cases hg
    · cases hg
end
end Go.Vi

/-
  Vi, part 25: the table of types, checked.
-/
namespace Go.Vi
open Go
def other : TI := ⟨0, 0, .other, none⟩
def lookT : List (TypeId × TI) → TypeId → TI
  | [], _ => other
  | x :: l, t => bif Nat.beq x.1 t then x.2 else lookT l t
def fieldsB (P : Program) : List (Nat × TypeId) → List Field → Bool
  | [], [] => true
  | x :: xs, f :: fs => Nat.beq x.1 f.offset && Nat.beq x.2 f.type && !Nat.beq (P.cellsOf f.type) 0 && fieldsB P xs fs
  | _, _ => false
def kindB (P : Program) (k : K) (d : Option TypeDesc) : Bool := match k, d with
  | .int k, some (.int k') => decide (k = k')
  | .bool, some .bool => true
  | .str, some .string => true
  | .sl te, some (.slice te') => Nat.beq te te'
  | .struct fs, some (.struct fields) => fieldsB P fs fields.toList
  | .ptr te, some (.pointer te') => Nat.beq te te'
  | .func, some (.func _ _ _) => true
  | _, _ => false
def isU8 : Option Ty → Bool
  | some (.int .u8) => true
  | _ => false
def zU8 : Option Value → Bool
  | some (.int .u8 0) => true
  | _ => false
def tiB (P : Program) (τ : Tau) (t : TypeId) : Bool := match P.info? t with
  | some i => Nat.beq i.size (τ t).sz && Nat.beq i.bytes (τ t).by_ && Nat.blt 0 (τ t).sz && Nat.blt 0 (τ t).by_ && kindB P (τ t).kind (P.underlying t) && ((τ t).agg || Nat.beq (τ t).sz 1) &&
    (match zeroC τ 20 t with
      | some cs => (match i.zero with
        | some z => zeroIs cs z.cells.toList && Nat.beq z.cells.size (τ t).sz
        | none => false)
      | none => true) &&
    (match isU8 (τ t).ty with
      | true => Nat.beq (τ t).by_ 1 && zU8 i.zero
      | false => true) &&
    (match (τ t).ty with
      | some e => Nat.beq e.sz (τ t).sz && (e.isAgg == (τ t).agg) && (match i.zero with
        | some z => zeroIs (cellsOf e e.zero) z.cells.toList
        | none => false)
      | none => true) &&
    (match (τ t).ty with
      | some e => !(e.isAgg && e.flat) || (!P.eqGuardType P.depth t && eqT P τ 12 t e)
      | none => true)
  | none => false
theorem fieldsB_spec {P : Program} : ∀ {fs : List (Nat × TypeId)} {fields : List Field}, fieldsB P fs fields = true → fs = fields.map (fun f => (f.offset, f.type)) ∧ ∀ f ∈ fields, P.cellsOf f.type ≠ 0
  | [], [], _ => ⟨rfl, by simp⟩
  | x :: xs, f :: fs, h => by
    simp only [fieldsB, Bool.and_eq_true] at h
    obtain ⟨⟨⟨h1, h2⟩, h3⟩, h4⟩ := h
    obtain ⟨e, h5⟩ := fieldsB_spec h4
    refine ⟨?_, ?_⟩
    · rw [e]
      have : x = (f.offset, f.type) := Prod.ext (Nat.eq_of_beq_eq_true h1) (Nat.eq_of_beq_eq_true h2)
      rw [this]
      rfl
    · intro g hg
      rcases List.mem_cons.1 hg with rfl | hg
      · intro e0
        rw [e0] at h3
        cases h3
      · exact h5 g hg
  | [], f :: fs, h => by cases h
  | x :: xs, [], h => by cases h
theorem tiB_spec {P : Program} {τ : Tau} {t : TypeId} (h : tiB P τ t = true) : TIok P τ t := by
  unfold tiB at h
  split at h
  · rename_i i hi
    simp only [Bool.and_eq_true] at h
    obtain ⟨⟨⟨⟨⟨⟨⟨⟨⟨h1, h2⟩, h3⟩, h4⟩, h5⟩, h6⟩, h7⟩, h8⟩, h9⟩, h11⟩ := h
    refine ⟨⟨i, hi, Nat.eq_of_beq_eq_true h1, Nat.eq_of_beq_eq_true h2⟩, by simpa [Nat.blt_eq] using h3, by simpa [Nat.blt_eq] using h4, ?_, fun ha => ?_, fun cs hcs => ?_, fun hu => ?_, fun e he => ?_, fun e he h12 h13 => ?_⟩
    · unfold kindB at h5
      split at h5
      · rename_i hk hd; rw [hk]; simp only [decide_eq_true_eq] at h5; subst h5; exact hd
      · rename_i hk hd; rw [hk]; exact hd
      · rename_i hk hd; rw [hk]; exact hd
      · rename_i hk hd; rw [hk]; rw [Nat.eq_of_beq_eq_true h5]; exact hd
      · rename_i hk hd
        rw [hk]
        obtain ⟨q1, q2⟩ := fieldsB_spec h5
        exact ⟨_, hd, q1, fun f hf => q2 f (by simpa using hf)⟩
      · rename_i hk hd; rw [hk]; rw [Nat.eq_of_beq_eq_true h5]; exact hd
      · rename_i hk hd; rw [hk]; exact ⟨_, _, _, hd⟩
      · cases h5
    · rw [ha] at h6
      exact Nat.eq_of_beq_eq_true (by simpa using h6)
    · rw [hcs] at h7
      simp only at h7
      split at h7
      · rename_i z hz
        rw [Bool.and_eq_true] at h7
        exact ⟨i, z, hi, hz, h7.1, Nat.eq_of_beq_eq_true h7.2⟩
      · cases h7
    · rw [hu] at h8
      simp only [isU8, Bool.and_eq_true] at h8
      refine ⟨Nat.eq_of_beq_eq_true h8.1, i, hi, ?_⟩
      have h10 := h8.2
      unfold zU8 at h10
      split at h10
      · assumption
      · cases h10
    · rw [he] at h9
      simp only [Bool.and_eq_true, beq_iff_eq] at h9
      obtain ⟨⟨q1, q2⟩, q3⟩ := h9
      refine ⟨Nat.eq_of_beq_eq_true q1, q2, ?_⟩
      split at q3
      · rename_i z hz; exact ⟨i, z, hi, hz, q3⟩
      · cases q3
    · rw [he] at h11
      simp only [h12, h13, Bool.and_self, Bool.not_true, Bool.false_or, Bool.and_eq_true, Bool.not_eq_true'] at h11
      exact h11
  · cases h
theorem tok_of {P : Program} {tab : List (TypeId × TI)} (h : (tab.all fun x => tiB P (lookT tab) x.1) = true) : TOK P (lookT tab) := by
  intro t ht
  have key : ∀ l : List (TypeId × TI), (lookT l t).known = true → ∃ x ∈ l, x.1 = t := by
    intro l
    induction l with
    | nil => intro h; cases h
    | cons x l ih =>
      intro h
      simp only [lookT] at h
      cases hb : Nat.beq x.1 t with
      | true => exact ⟨x, by simp, Nat.eq_of_beq_eq_true hb⟩
      | false =>
        rw [hb] at h
        obtain ⟨y, hy, he⟩ := ih h
        exact ⟨y, by simp [hy], he⟩
  obtain ⟨x, hx, rfl⟩ := key tab ht
  rw [List.all_eq_true] at h
  exact tiB_spec (h x hx)
end Go.Vi

/-
  Vi, part 26: functions that are handed pointers, rows of one's own and data, and answer data and rows of one's own: shapes, and what follows their bodies.
-/
namespace Go.Vi
open Go
/-- what stands in cells: data; a row of one's own ('a': it may be appended to) -/
inductive Sh where
  | d (t : Ty) | own (e : Ty) (a : Option TypeId) | unit | pair (a b : Sh)
@[reducible] def Sh.D : Sh → Type
  | .d t => t.D
  | .own e _ => List e.D
  | .unit => Unit
  | .pair a b => a.D × b.D
def Sh.n : Sh → Nat
  | .d _ => 0
  | .own _ _ => 1
  | .unit => 0
  | .pair a b => a.n + b.n
/-- the cells; rows are named from k on -/
def Sh.cells : (s : Sh) → s.D → Nat → List V
  | .d t, x, _ => cellsOf t x
  | .own _ _, _, k => [.own k none]
  | .unit, _, _ => []
  | .pair a b, x, k => a.cells x.1 k ++ b.cells x.2 (k + a.n)
def Sh.rows : (s : Sh) → s.D → Mem
  | .d _, _ => []
  | .own e a, xs => [.row e xs a]
  | .unit, _ => []
  | .pair a b, x => a.rows x.1 ++ b.rows x.2
theorem Sh.rows_len : ∀ (s : Sh) (x : s.D), (s.rows x).length = s.n
  | .d _, _ => rfl
  | .own _ _, _ => rfl
  | .unit, _ => rfl
  | .pair a b, x => by simp [Sh.rows, Sh.n, Sh.rows_len a, Sh.rows_len b]
def Sh.flat : Sh → Bool
  | .d t => t.flat
  | .own e _ => e.flat
  | .unit => true
  | .pair a b => a.flat && b.flat
/-- an argument, or a result: a datum; a value with rows of one's own ('g': an aggregate); a pointer to such cells; a function -/
inductive Ak where
  | dat (t : Ty) | val (g : Bool) (s : Sh) | ptr (s : Sh) | fn (f : FuncId)
@[reducible] def Ak.D : Ak → Type
  | .dat t => t.D
  | .val _ s => s.D
  | .ptr s => s.D
  | .fn _ => Unit
def Ak.n : Ak → Nat
  | .dat _ => 0
  | .val _ s => s.n
  | .ptr s => s.n + 1
  | .fn _ => 0
def Ak.v : (a : Ak) → a.D → Nat → V
  | .dat t, x, _ => .d t x
  | .val true s, x, k => .agg (s.cells x k)
  | .val false s, x, k => (s.cells x k).headD .junk
  | .ptr _, _, k => .ref k 0
  | .fn f, _, _ => .fn (.func f) [] []
def Ak.blks : (a : Ak) → a.D → Nat → Mem
  | .dat _, _, _ => []
  | .val _ s, x, _ => s.rows x
  | .ptr s, x, k => .cells (s.cells x (k + 1)) :: s.rows x
  | .fn _, _, _ => []
theorem Ak.blks_len : ∀ (a : Ak) (x : a.D) (k : Nat), (a.blks x k).length = a.n
  | .dat _, _, _ => rfl
  | .val _ s, x, _ => s.rows_len x
  | .ptr s, x, k => by simp [Ak.blks, Ak.n, s.rows_len x]
  | .fn _, _, _ => rfl
@[reducible] def AsD : List Ak → Type
  | [] => Unit
  | a :: as => a.D × AsD as
def asN : List Ak → Nat
  | [] => 0
  | a :: as => a.n + asN as
def asV : (as : List Ak) → AsD as → Nat → List V
  | [], _, _ => []
  | a :: as, x, k => a.v x.1 k :: asV as x.2 (k + a.n)
def asM : (as : List Ak) → AsD as → Nat → Mem
  | [], _, _ => []
  | a :: as, x, k => a.blks x.1 k ++ asM as x.2 (k + a.n)
theorem asM_len : ∀ (as : List Ak) (x : AsD as) (k : Nat), (asM as x k).length = asN as
  | [], _, _ => rfl
  | a :: as, x, k => by simp [asM, asN, a.blks_len, asM_len as]
/-- what is left behind where arguments lead to -/
@[reducible] def Ak.Y : Ak → Type
  | .dat _ => Unit
  | .val _ s => s.D
  | .ptr s => s.D
  | .fn _ => Unit
@[reducible] def AsY : List Ak → Type
  | [] => Unit
  | a :: as => a.Y × AsY as
def Ak.nn : Ak → Nat
  | .ptr s => s.n
  | _ => 0
def Ak.after : (a : Ak) → a.Y → Nat → Mem
  | .dat _, _, _ => []
  | .val _ s, y, _ => s.rows y
  | .ptr s, y, j => .cells (s.cells y j) :: List.replicate s.n .dead
  | .fn _, _, _ => []
def Ak.news : (a : Ak) → a.Y → Mem
  | .ptr s, y => s.rows y
  | .dat _, _ => []
  | .val _ _, _ => []
  | .fn _, _ => []
theorem Ak.after_len : ∀ (a : Ak) (y : a.Y) (j : Nat), (a.after y j).length = a.n
  | .dat _, _, _ => rfl
  | .val _ s, y, _ => s.rows_len y
  | .ptr s, y, j => by simp [Ak.after, Ak.n]
  | .fn _, _, _ => rfl
theorem Ak.news_len : ∀ (a : Ak) (y : a.Y), (a.news y).length = a.nn
  | .dat _, _ => rfl
  | .val _ _, _ => rfl
  | .ptr s, y => s.rows_len y
  | .fn _, _ => rfl
def asNN : List Ak → Nat
  | [] => 0
  | a :: as => a.nn + asNN as
def asAfter : (as : List Ak) → AsY as → Nat → Mem
  | [], _, _ => []
  | a :: as, y, j => a.after y.1 j ++ asAfter as y.2 (j + a.nn)
def asNews : (as : List Ak) → AsY as → Mem
  | [], _ => []
  | a :: as, y => a.news y.1 ++ asNews as y.2
theorem asAfter_len : ∀ (as : List Ak) (y : AsY as) (j : Nat), (asAfter as y j).length = asN as
  | [], _, _ => rfl
  | a :: as, y, j => by simp [asAfter, asN, a.after_len, asAfter_len as]
theorem asNews_len : ∀ (as : List Ak) (y : AsY as), (asNews as y).length = asNN as
  | [], _ => rfl
  | a :: as, y => by simp [asNews, asNN, a.news_len, asNews_len as]
def tupl : List V → V
  | [v] => v
  | vs => .tup vs
def untupl (n : Nat) (v : V) : Option (List V) := if n = 1 then some [v] else match v with
  | .tup vs => if vs.length = n then some vs else none
  | _ => none
structure XC where
  as : List Ak
  rs : List Ak
  pre : AsD as → Bool
  f : AsD as → AsD rs × AsY as
def XC.resB (c : XC) (y : AsD c.rs × AsY c.as) : V := tupl (asV c.rs y.1 (asN c.as + asNN c.as))
def XC.memB (c : XC) (y : AsD c.rs × AsY c.as) : Mem := asAfter c.as y.2 (asN c.as) ++ (asNews c.as y.2 ++ asM c.rs y.1 (asN c.as + asNN c.as))
theorem XC.memB_len (c : XC) (y : AsD c.rs × AsY c.as) : (c.memB y).length = asN c.as + (asNN c.as + asN c.rs) := by
  simp [XC.memB, asAfter_len, asNews_len, asM_len]
/-! ## what follows a body -/
def nodupB : List Nat → Bool
  | [] => true
  | b :: l => !has b l && nodupB l
theorem nodupB_iff : ∀ {l : List Nat}, nodupB l = true → l.Nodup
  | [], _ => List.nodup_nil
  | b :: l, h => by
    simp only [nodupB, Bool.and_eq_true, Bool.not_eq_true'] at h
    refine List.nodup_cons.2 ⟨fun hb => ?_, nodupB_iff h.2⟩
    rw [has_iff.2 hb] at h
    cases h.1
/-- cells, brought to a shape's form -/
def normS : Sh → List V → Mem → Option (List V × List V × Mem)
  | .d t, cs, m => bif t.flat then (match readCells t cs with
      | some x => some (cellsOf t x.1, x.2, m)
      | none => none)
    else match readCells t (takeCs m (cs.take t.sz)).1 with
      | some (x, []) => some (cellsOf t x, cs.drop t.sz, (takeCs m (cs.take t.sz)).2)
      | _ => none
  | .own e a, v :: cs, m => match v with
    | .own b none => match m[b]? with
      | some (.row e' xs a') => if a' = a then some ([.own b none], cs, m) else match a with
        | none => some ([.own b none], cs, m.set b (.row e' xs none))
        | _ => none
      | _ => none
    | .own b (some n) => match a, m[b]? with
      | none, some (.row e' xs _) => some ([.own m.length none], cs, m.set b .dead ++ [.row e' (pre xs (some n)) none])
      | _, _ => none
    | .nil => some ([.own m.length none], cs, m ++ [.row e [] a])
    | _ => none
  | .own _ _, [], _ => none
  | .unit, cs, m => some ([], cs, m)
  | .pair a b, cs, m => match normS a cs m with
    | some x => match normS b x.2.1 x.2.2 with
      | some y => some (x.1 ++ y.1, y.2.1, y.2.2)
      | none => none
    | none => none
def normR : Ak → V → Mem → Option (V × Mem)
  | .dat t, v, m => match rdV t (takeV m v).1 with
    | some x => some (.d t x, (takeV m v).2)
    | none => none
  | .val true s, .agg cs, m => match normS s cs m with
    | some (o, [], m') => some (.agg o, m')
    | _ => none
  | .val false s, v, m => bif v.plain && !aggV v then (match normS s [v] m with
    | some ([o], [], m') => some (o, m')
    | _ => none) else none
  | _, _, _ => none
def normRs : List Ak → List V → Mem → Option (List V × Mem)
  | [], [], m => some ([], m)
  | r :: rs, v :: vs, m => match normR r v m with
    | some x => match normRs rs vs x.2 with
      | some y => some (x.1 :: y.1, y.2)
      | none => none
    | none => none
  | _, _, _ => none
/-- the cells that pointers lead to -/
def normPs : List Ak → Nat → Mem → Option Mem
  | [], _, m => some m
  | .ptr s :: as, k, m => match m[k]? with
    | some (.cells cs) => match normS s cs m with
      | some (o, [], m') => normPs as (k + (s.n + 1)) (m'.set k (.cells o))
      | _ => none
    | _ => none
  | a :: as, k, m => normPs as (k + a.n) m
def keepA (z : Nat) : List Ak → Nat → List Nat
  | [], _ => []
  | .ptr s :: as, k => k :: (List.range' (z + k) s.n ++ keepA z as (k + (s.n + 1)))
  | a :: as, k => List.range' k a.n ++ keepA z as (k + a.n)
def newA (m : Mem) : List Ak → Nat → List Nat
  | [], _ => []
  | .ptr s :: as, k => (m.getD k .dead).names ++ newA m as (k + (s.n + 1))
  | a :: as, k => newA m as (k + a.n)
def Kraw (as rs : List Ak) (v : V) (m : Mem) : Option R0 := match untupl rs.length v with
  | none => none
  | some vs => match normPs as 0 m with
    | none => none
    | some m1 => match normRs rs vs m1 with
      | none => none
      | some x =>
        let keep := keepA x.2.length as 0 ++ (newA x.2 as 0 ++ V.namess x.1)
        if nodupB keep = true then some (tupl (V.rens (keepF keep) x.1), keep.map fun b => (x.2.getD b .dead).ren (keepF keep)) else none
section
variable {F F' : Nat → Option Pl} {S S' : Nat → Prop} {w w0 : World} {O : Nat → Prop} {m : Mem} {P : Program} {τ : Tau} {Γ : Gam R0}
/-- dead names may be anywhere -/
theorem Inv.patch (hI : Inv w0 O F S w m) {G : Nat → Option Pl} (hG : ∀ b p, F b = some p → G b = some p) (hd : ∀ b, G b ≠ F b → m[b]? = some .dead) : Inv w0 O G S w m := by
  have same : ∀ {b : Nat} {x : Blk}, m[b]? = some x → x ≠ .dead → G b = F b := by
    intro b x hb hx
    by_cases h : G b = F b
    · exact h
    · rw [hd b h] at hb; cases hb; exact (hx rfl).elim
  have hot_nd : ∀ {p : Pl} {x : Blk}, x.hot p → x ≠ .dead := by rintro p x h rfl; exact h
  refine ⟨hI.ext, fun b hb => ?_, fun b x p hx hp => ?_, fun b b' x x' p p' hx hx' hp hp' h h' hne => ?_, fun b x p hx hp h => ?_, hI.sb, hI.so, fun b x hx hne => ?_⟩
  · by_cases h : G b = F b
    · rw [h]; exact hI.dom b hb
    · have := (List.getElem?_eq_some_iff.1 (hd b h)).1
      omega
  · by_cases hne : x = .dead
    · subst hne; trivial
    · rw [same hx hne] at hp
      have hk : Keep F S w G S w := ⟨hG, fun _ h => h, fun _ _ => rfl⟩
      exact BRep.keep hk (fun _ => rfl) (hI.blk b x p hx hp)
  · rw [same hx (hot_nd h)] at hp
    rw [same hx' (hot_nd h')] at hp'
    exact hI.sep b b' x x' p p' hx hx' hp hp' h h' hne
  · rw [same hx (hot_nd h)] at hp
    exact hI.out b x p hx hp h
  · rw [same hx hne]
    exact hI.is b x hx hne
theorem takeC_cells {v : V} {b : Nat} {cs : List V} (h : m[b]? = some (.cells cs)) : (takeC m v).2[b]? = some (.cells cs) := by
  unfold takeC
  split
  · split
    · rename_i c n e xs a hm
      rw [List.getElem?_set]
      split
      · rename_i hc; subst hc; rw [h] at hm; cases hm
      · exact h
    · exact h
    · exact h
  · exact h
theorem takeCs_cells {b : Nat} {cs : List V} : ∀ {vs : List V} {m : Mem}, m[b]? = some (.cells cs) → (takeCs m vs).2[b]? = some (.cells cs)
  | [], _, h => h
  | _ :: vs, _, h => takeCs_cells (vs := vs) (takeC_cells h)
theorem takeV_cells {v : V} {b : Nat} {cs : List V} (h : m[b]? = some (.cells cs)) : (takeV m v).2[b]? = some (.cells cs) := by
  unfold takeV
  split
  · exact takeCs_cells h
  · exact takeC_cells h
theorem takeC_length (m : Mem) (v : V) : (takeC m v).2.length = m.length := by
  unfold takeC
  split
  · split <;> simp
  · rfl
theorem takeCs_length : ∀ (vs : List V) (m : Mem), (takeCs m vs).2.length = m.length
  | [], _ => rfl
  | v :: vs, m => by simp only [takeCs]; rw [takeCs_length vs, takeC_length]
theorem takeV_length (m : Mem) (v : V) : (takeV m v).2.length = m.length := by
  unfold takeV
  split
  · exact takeCs_length _ _
  · exact takeC_length _ _
theorem dead_set {b c : Nat} {x y : Blk} (h : m[b]? = some .dead) (hc : m[c]? = some x) (hx : x ≠ .dead) : (m.set c y)[b]? = some .dead := by
  rw [List.getElem?_set]
  split
  · rename_i e; subst e; rw [h] at hc; cases hc; exact (hx rfl).elim
  · exact h
theorem dead_setd {b c : Nat} (h : m[b]? = some .dead) : (m.set c .dead)[b]? = some .dead := by
  rw [List.getElem?_set]
  split
  · rename_i e
    subst e
    rw [if_pos (List.getElem?_eq_some_iff.1 h).1]
  · exact h
theorem dead_app' {b k : Nat} {l : Mem} {p : Pl} (hk : k = m.length) (h : m[b]? = some .dead) : (m ++ l)[b]? = some .dead ∧ placeF F k p b = F b := by
  have hlt := (List.getElem?_eq_some_iff.1 h).1
  refine ⟨by rw [List.getElem?_append_left hlt]; exact h, ?_⟩
  unfold placeF
  rw [if_neg (by omega)]
theorem normS_sound : ∀ {s : Sh} {cs : List V} {us : List Value} {F : Nat → Option Pl} {S : Nat → Prop} {m m' : Mem} {out rest : List V}, Inv w0 O F S w m → VReps F S w cs us → normS s cs m = some (out, rest, m') →
    ∃ F' S' us1 us2, us = us1 ++ us2 ∧ Inv w0 O F' S' w m' ∧ Keep F S w F' S' w ∧ VReps F' S' w out us1 ∧ VReps F' S' w rest us2 ∧ (s.flat = true → S' = S) ∧ m.length ≤ m'.length ∧ (∀ (b : Nat) l, m[b]? = some (.cells l) → m'[b]? = some (.cells l)) ∧ ∀ b, m[b]? = some .dead → m'[b]? = some .dead ∧ F' b = F b
  | .d t, cs, us, F, S, m, m', out, rest, hI, hr, h => by
    simp only [normS] at h
    cases hf : t.flat with
    | true =>
      rw [hf, cond_true] at h
      split at h
      · rename_i x hx
        cases h
        obtain ⟨c, us2, rfl, hc, hu⟩ := readCells_rep (x := x.1) (rest := x.2) hr hx
        exact ⟨F, S, c, us2, rfl, hI, .refl _ _ _, cellsOf_rep hc, hu, fun _ => rfl, Nat.le_refl _, fun _ _ h => h, fun _ h => ⟨h, rfl⟩⟩
      · cases h
    | false =>
      rw [hf, cond_false] at h
      split at h
      · rename_i x hx
        cases h
        obtain ⟨S1, i1, k1, r1⟩ := takeCs_sound hI (hr.take t.sz)
        obtain ⟨c, us2, hus, hc, hu⟩ := readCells_rep r1 hx
        have := hu.nil_inv
        subst this
        rw [List.append_nil] at hus
        refine ⟨F, S1, c, us.drop t.sz, ?_, i1, k1, cellsOf_rep hc, (hr.drop t.sz).keep k1, fun h => ?_, ?_, fun b l h => takeCs_cells h, fun b h => ⟨takeCs_dead h, rfl⟩⟩
        · rw [← hus]; exact (List.take_append_drop _ _).symm
        · rw [show Sh.flat (.d t) = t.flat from rfl, hf] at h; cases h
        · rw [takeCs_length]; exact Nat.le_refl _
      · cases h
  | .own e a, [], us, F, S, m, m', out, rest, hI, hr, h => by cases h
  | .own e a, v :: cs, us, F, S, m, m', out, rest, hI, hr, h => by
    obtain ⟨u, us', rfl, h0, h1⟩ := hr.head
    simp only [normS] at h
    split at h
    · rename_i b
      split at h
      · rename_i e' xs a' hm
        by_cases ha : a' = a
        · rw [if_pos ha] at h
          cases h
          exact ⟨F, S, [u], us', rfl, hI, .refl _ _ _, .cons h0 .nil, h1, fun _ => rfl, Nat.le_refl _, fun _ _ h => h, fun _ h => ⟨h, rfl⟩⟩
        · rw [if_neg ha] at h
          split at h
          · cases h
            have hI' : Inv w0 O F S w (m.set b (.row e' xs none)) := hI.reblk hm (fun p hp => by
              obtain ⟨q1, q2, q3, q4⟩ := hI.blk b _ p hm hp
              refine ⟨q1, q2, fun h => (h rfl).elim, fun hc => ?_⟩
              obtain ⟨arr, T, fr, g1, g2, g3, g4, _⟩ := q4 hc
              exact ⟨arr, T, fr, g1, g2, g3, g4, fun te h => by cases h⟩) (fun p h => h) (by simp)
            exact ⟨F, S, [u], us', rfl, hI', .refl _ _ _, .cons h0 .nil, h1, fun _ => rfl, by simp, fun c l h => cells_set h hm (by simp), fun c h => ⟨dead_set h hm (by simp), rfl⟩⟩
          · cases h
      · cases h
    · rename_i b n
      split at h
      · rename_i e' xs a' hm
        cases h
        obtain ⟨p, ad, l, hf, ⟨hn0, hn1, hl⟩, hda, rfl⟩ := h0.own_inv
        obtain ⟨q1, q2, q3, q4⟩ := hI.blk b _ p hm hf
        have hpl : (pre xs (some n)).length = l := pre_len (n := some n) (by rw [← q2.1]; exact ⟨hn0, hn1, hl⟩)
        have hlt : b < m.length := (List.getElem?_eq_some_iff.1 hm).1
        have hI1 := hI.kill b
        have hlen : m.length = (m.set b .dead).length := by simp
        have hI2 := add_end (p := { p with len := l }) (x := .row e' (pre xs (some n)) none) hI1 (fun hx => hI.free_kill (p := p) hm hf hx) (fun hx => hI.out b _ p hm hf hx) (by
          refine ⟨q1, ⟨hpl.symm, ?_⟩, fun h => (h rfl).elim, fun hc => ?_⟩
          · have := q2.2
            rw [hpl]; rw [← q2.1] at this; show l ≤ p.cap; omega
          · obtain ⟨arr, T, fr, g1, g2, g3, g4, _⟩ := q4 hc
            exact ⟨arr, T, fr, g1, g2, g3, fun i x hx => g4 i x (pre_get hx), fun te h => by cases h⟩)
        rw [← hlen] at hI2
        refine ⟨_, S, [_], us', rfl, hI2.1, hI2.2, .cons (.own (p := { p with len := l }) (placeF_self _ _) rfl hda) .nil, h1.keep hI2.2, fun _ => rfl, by simp, fun c l' h => cells_app (cells_set h hm (by simp)), fun c h => dead_app' (by simp) (dead_setd h)⟩
      · cases h
    · cases h
      obtain ⟨ad, rfl⟩ := h0.nil_inv
      obtain ⟨i2, k2⟩ := add_end (p := ⟨0, 0, 0, e.sz, 0⟩) (x := .row e [] a) hI (fun h => absurd h (by simp [Blk.hot])) (fun h => absurd h (by simp [Blk.hot])) ⟨rfl, ⟨rfl, Nat.le_refl _⟩, fun _ => Nat.zero_le _, fun h => absurd h (by simp)⟩
      exact ⟨_, S, [_], us', rfl, i2, k2, .cons (.own (p := ⟨0, 0, 0, e.sz, 0⟩) (placeF_self _ _) rfl (fun h => absurd h (by simp))) .nil, h1.keep k2, fun _ => rfl, by simp, fun c l' h => cells_app h, fun c h => dead_app' rfl h⟩
    · cases h
  | .unit, cs, us, F, S, m, m', out, rest, hI, hr, h => by
    cases h
    exact ⟨F, S, [], us, rfl, hI, .refl _ _ _, .nil, hr, fun _ => rfl, Nat.le_refl _, fun _ _ h => h, fun _ h => ⟨h, rfl⟩⟩
  | .pair a b, cs, us, F, S, m, m', out, rest, hI, hr, h => by
    simp only [normS] at h
    split at h
    · rename_i x hx
      split at h
      · rename_i y hy
        cases h
        obtain ⟨F1, S1, u1, u2, rfl, i1, k1, o1, r1, e1, l1, c1, d1⟩ := normS_sound hI hr (show normS a cs m = some (x.1, x.2.1, x.2.2) from hx)
        obtain ⟨F2, S2, v1, v2, rfl, i2, k2, o2, r2, e2, l2, c2, d2⟩ := normS_sound i1 r1 (show normS b x.2.1 x.2.2 = some (y.1, y.2.1, y.2.2) from hy)
        refine ⟨F2, S2, u1 ++ v1, v2, by simp, i2, k1.trans k2, (o1.keep k2).append o2, r2, fun h => ?_, Nat.le_trans l1 l2, fun b l h => c2 b l (c1 b l h), fun b h => ⟨(d2 b (d1 b h).1).1, (d2 b (d1 b h).1).2.trans (d1 b h).2⟩⟩
        have : a.flat = true ∧ b.flat = true := by simpa [Sh.flat] using h
        rw [e2 this.2, e1 this.1]
      · cases h
    · cases h
theorem normR_sound (hI : Inv w0 O F S w m) {r : Ak} {v : V} {u : Value} {x : V × Mem} (hv : VRep F S w v u) (h : normR r v m = some x) :
    ∃ F' S', Inv w0 O F' S' w x.2 ∧ Keep F S w F' S' w ∧ VRep F' S' w x.1 u ∧ m.length ≤ x.2.length := by
  unfold normR at h
  split at h
  · split at h
    · rename_i y hy
      cases h
      obtain ⟨S1, i1, k1, r1⟩ := takeV_sound hI hv
      exact ⟨F, S1, i1, k1, rdV_rep r1 hy, by rw [takeV_length]; exact Nat.le_refl _⟩
    · cases h
  · split at h
    · rename_i hn
      cases h
      obtain ⟨us, rfl, hr, h1⟩ := hv.agg_inv
      obtain ⟨F1, S1, u1, u2, hus, i1, k1, o1, r1, e1, l1, c1, d1⟩ := normS_sound hI hr hn
      have := r1.nil_inv
      subst this
      rw [List.append_nil] at hus
      subst hus
      exact ⟨F1, S1, i1, k1, by simpa using VRep.of_agg o1 (fun c hc => h1 c (by simpa using hc)), l1⟩
    · cases h
  · rename_i s
    cases hb : v.plain && !aggV v with
    | false => rw [hb] at h; cases h
    | true =>
      rw [hb, cond_true] at h
      split at h
      · rename_i o m' hn
        cases h
        obtain ⟨F1, S1, u1, u2, hus, i1, k1, o1, r1, e1, l1, c1, d1⟩ := normS_sound hI (.cons hv .nil) hn
        have := r1.nil_inv
        subst this
        rw [List.append_nil] at hus
        subst hus
        obtain ⟨u', us', he, h0, _⟩ := o1.head
        cases he
        exact ⟨F1, S1, i1, k1, h0, l1⟩
      · cases h
  · cases h
theorem normRs_sound : ∀ {rs : List Ak} {vs : List V} {us : List Value} {F : Nat → Option Pl} {S : Nat → Prop} {m : Mem} {x : List V × Mem}, Inv w0 O F S w m → VReps F S w vs us → normRs rs vs m = some x →
    ∃ F' S', Inv w0 O F' S' w x.2 ∧ Keep F S w F' S' w ∧ VReps F' S' w x.1 us ∧ m.length ≤ x.2.length
  | [], [], us, F, S, m, x, hI, hv, h => by cases h; exact ⟨F, S, hI, .refl _ _ _, hv, Nat.le_refl _⟩
  | r :: rs, v :: vs, us, F, S, m, x, hI, hv, h => by
    obtain ⟨u, us', rfl, h0, h1⟩ := hv.head
    simp only [normRs] at h
    split at h
    · rename_i y hy
      split at h
      · rename_i z hz
        cases h
        obtain ⟨F1, S1, i1, k1, r1, l1⟩ := normR_sound hI h0 hy
        obtain ⟨F2, S2, i2, k2, r2, l2⟩ := normRs_sound i1 (h1.keep k1) hz
        exact ⟨F2, S2, i2, k1.trans k2, .cons (r1.keep k2) r2, Nat.le_trans l1 l2⟩
      · cases h
    · cases h
  | [], _ :: _, us, F, S, m, x, hI, hv, h => by cases h
  | _ :: _, [], us, F, S, m, x, hI, hv, h => by cases h
theorem normPs_sound : ∀ {as : List Ak} {k : Nat} {F : Nat → Option Pl} {S : Nat → Prop} {m m' : Mem}, Inv w0 O F S w m → normPs as k m = some m' →
    ∃ F' S', Inv w0 O F' S' w m' ∧ Keep F S w F' S' w ∧ m.length ≤ m'.length
  | [], k, F, S, m, m', hI, h => by cases h; exact ⟨F, S, hI, .refl _ _ _, Nat.le_refl _⟩
  | .ptr s :: as, k, F, S, m, m', hI, h => by
    simp only [normPs] at h
    split at h
    · rename_i cs hm
      split at h
      · rename_i o m1 hn
        have hlt : k < m.length := (List.getElem?_eq_some_iff.1 hm).1
        cases hF : F k with
        | none => exact (hI.is k _ hm (by simp) hF).elim
        | some p =>
          obtain ⟨ho, arr, T, hh, hr, h1⟩ := hI.blk k _ p hm hF
          obtain ⟨F1, S1, u1, u2, hus, i1, k1, o1, r1, e1, l1, c1, d1⟩ := normS_sound hI hr hn
          have := r1.nil_inv
          subst this
          rw [List.append_nil] at hus
          subst hus
          have i2 := i1.reblk (y := .cells o) (c1 k cs hm) (fun p' hp' => by
            rw [k1.f k p hF] at hp'
            cases hp'
            exact ⟨ho, arr, T, hh, o1, h1⟩) (fun p h => h) (by simp)
          obtain ⟨F2, S2, i3, k3, l3⟩ := normPs_sound i2 h
          exact ⟨F2, S2, i3, k1.trans k3, by simp at l3; omega⟩
      · cases h
    · cases h
  | .dat _ :: as, k, F, S, m, m', hI, h => normPs_sound (as := as) hI h
  | .val _ _ :: as, k, F, S, m, m', hI, h => normPs_sound (as := as) hI h
  | .fn _ :: as, k, F, S, m, m', hI, h => normPs_sound (as := as) hI h
theorem keepA_len (z : Nat) : ∀ (as : List Ak) (k : Nat), (keepA z as k).length = asN as
  | [], _ => rfl
  | .ptr s :: as, k => by simp [keepA, asN, Ak.n, keepA_len z as]; omega
  | .dat _ :: as, k => by simp [keepA, asN, keepA_len z as]
  | .val _ _ :: as, k => by simp [keepA, asN, keepA_len z as]
  | .fn _ :: as, k => by simp [keepA, asN, keepA_len z as]
theorem keepA_at (z : Nat) : ∀ (as : List Ak) (k c : Nat), c < asN as → ∃ b, (keepA z as k)[c]? = some b ∧ (b = k + c ∨ z ≤ b)
  | [], _, c, h => by simp [asN] at h
  | .ptr s :: as, k, c, h => by
    simp only [keepA]
    cases c with
    | zero => exact ⟨k, rfl, .inl rfl⟩
    | succ c =>
      rw [List.getElem?_cons_succ]
      by_cases hc : c < s.n
      · rw [List.getElem?_append_left (by simpa using hc), List.getElem?_range' hc]
        exact ⟨_, rfl, .inr (by omega)⟩
      · rw [List.getElem?_append_right (by simpa using Nat.le_of_not_lt hc), List.length_range']
        have h' : c - s.n < asN as := by simp only [asN, Ak.n] at h; omega
        obtain ⟨b, hb, hor⟩ := keepA_at z as (k + (s.n + 1)) (c - s.n) h'
        exact ⟨b, hb, hor.imp (fun e => by omega) id⟩
  | .dat _ :: as, k, c, h => by
    have h' : c < asN as := by simpa [asN, Ak.n] using h
    obtain ⟨b, hb, hor⟩ := keepA_at z as (k + 0) c h'
    exact ⟨b, by simpa [keepA, Ak.n] using hb, hor⟩
  | .fn _ :: as, k, c, h => by
    have h' : c < asN as := by simpa [asN, Ak.n] using h
    obtain ⟨b, hb, hor⟩ := keepA_at z as (k + 0) c h'
    exact ⟨b, by simpa [keepA, Ak.n] using hb, hor⟩
  | .val g s :: as, k, c, h => by
    simp only [keepA, Ak.n]
    by_cases hc : c < s.n
    · rw [List.getElem?_append_left (by simpa using hc), List.getElem?_range' hc]
      exact ⟨_, rfl, .inl (by omega)⟩
    · rw [List.getElem?_append_right (by simpa using Nat.le_of_not_lt hc), List.length_range']
      have h' : c - s.n < asN as := by simp only [asN, Ak.n] at h; omega
      obtain ⟨b, hb, hor⟩ := keepA_at z as (k + s.n) (c - s.n) h'
      exact ⟨b, hb, hor.imp (fun e => by omega) id⟩
theorem untupl_rep {n : Nat} {v : V} {u : Value} {vs : List V} (hv : VRep F S w v u) (h : untupl n v = some vs) : vs.length = n ∧ ∃ us, VReps F S w vs us ∧ ∀ {F' : Nat → Option Pl} {S' : Nat → Prop} {w' : World} {vs' : List V}, VReps F' S' w' vs' us → VRep F' S' w' (tupl vs') u := by
  unfold untupl at h
  by_cases hn : n = 1
  · rw [if_pos hn] at h
    cases h
    refine ⟨hn.symm, [u], .cons hv .nil, fun {F' S' w' vs'} h => ?_⟩
    have := h.len
    match vs', this, h with
    | [v'], _, h =>
      obtain ⟨u', us', he, h0, _⟩ := h.head
      cases he
      exact h0
  · rw [if_neg hn] at h
    split at h
    · rename_i l
      obtain ⟨hl, h⟩ := ite_some h
      cases h
      obtain ⟨us, rfl, hr⟩ := hv.tup_inv
      refine ⟨hl, us.toList, hr, fun {F' S' w' vs'} h => ?_⟩
      have h1 : vs'.length ≠ 1 := by rw [h.len, ← hr.len, hl]; exact hn
      have tt : ∀ l : List V, l.length ≠ 1 → tupl l = .tup l := fun l h1 => by
        match l, h1 with
        | [], _ => rfl
        | [_], h1 => exact (h1 rfl).elim
        | _ :: _ :: _, _ => rfl
      rw [tt _ h1]
      exact .tup (by simpa using h.len) (fun i v u hv hu => h.at_ i v u hv (by simpa using hu))
    · cases h
theorem Kraw_sound {as rs : List Ak} {v : V} {u : Value} {r : R0} (hI : Inv w0 O F S w m) (hv : VRep F S w v u) (h : Kraw as rs v m = some r) :
    ∃ F' S', VRep F' S' w r.1 u ∧ Inv w0 O F' S' w r.2 ∧ Keep (fun b => if b < asN as then F b else none) S w F' S' w := by
  unfold Kraw at h
  split at h
  · cases h
  · rename_i vs hvs
    obtain ⟨_, us, hus, hout⟩ := untupl_rep hv hvs
    split at h
    · cases h
    · rename_i m1 hm1
      obtain ⟨F1, S1, i1, k1, l1⟩ := normPs_sound hI hm1
      split at h
      · cases h
      · rename_i x hx
        obtain ⟨F2, S2, i2, k2, r2, l2⟩ := normRs_sound i1 (hus.keep k1) hx
        obtain ⟨hnd, h⟩ := ite_some h
        cases h
        generalize hK : keepA x.2.length as 0 ++ (newA x.2 as 0 ++ V.namess x.1) = keep at hnd ⊢
        obtain ⟨i3, ren⟩ := i2.rename (nodupB_iff hnd)
        have hat : ∀ c, c < asN as → ∃ b, keep[c]? = some b ∧ (b = c ∨ x.2.length ≤ b) := by
          intro c hc
          obtain ⟨b, hb, hor⟩ := keepA_at x.2.length as 0 c hc
          refine ⟨b, ?_, by simpa using hor⟩
          rw [← hK, List.getElem?_append_left (by rw [keepA_len]; exact hc)]
          exact hb
        have hG : ∀ c p, (keep[c]?).bind F2 = some p → (if c < asN as then F2 c else (keep[c]?).bind F2) = some p := by
          intro c p hp
          by_cases hc : c < asN as
          · rw [if_pos hc]
            obtain ⟨b, hb, rfl | hle⟩ := hat c hc
            · rw [hb] at hp; exact hp
            · rw [hb] at hp
              have hp : F2 b = some p := hp
              rw [i2.dom b hle] at hp
              cases hp
          · rw [if_neg hc]; exact hp
        have hd : ∀ c, (if c < asN as then F2 c else (keep[c]?).bind F2) ≠ (keep[c]?).bind F2 → (keep.map fun b => (x.2.getD b .dead).ren (keepF keep))[c]? = some .dead := by
          intro c hc
          by_cases hlt : c < asN as
          · rw [if_pos hlt] at hc
            obtain ⟨b, hb, rfl | hle⟩ := hat c hlt
            · rw [hb] at hc; exact (hc rfl).elim
            · rw [List.getElem?_map, hb]
              simp [List.getD_eq_getElem?_getD, List.getElem?_eq_none hle, Blk.ren]
          · rw [if_neg hlt] at hc; exact (hc rfl).elim
        refine ⟨_, S2, ?_, i3.patch hG hd, ⟨fun c p hp => ?_, fun g hg => k2.s g (k1.s g hg), fun _ _ => rfl⟩⟩
        · have : VReps (fun c => if c < asN as then F2 c else (keep[c]?).bind F2) S2 w (V.rens (keepF keep) x.1) us :=
            (r2.ren ren).keep ⟨hG, fun _ h => h, fun _ _ => rfl⟩
          exact hout this
        · show (if c < asN as then F2 c else (keep[c]?).bind F2) = some p
          have hp : (if c < asN as then F c else none) = some p := hp
          by_cases hc : c < asN as
          · rw [if_pos hc] at hp ⊢
            exact k2.f c p (k1.f c p hp)
          · rw [if_neg hc] at hp; cases hp
/-- a function does what a contract says -/
def XOk (P : Program) (g : FuncId) (c : XC) : Prop := ∀ (w0 : World) (O : Nat → Prop) (F : Nat → Option Pl) (S : Nat → Prop) (w : World) (us : List Value) (x : AsD c.as), Inv w0 O F S w (asM c.as x 0) → VReps F S w (asV c.as x 0) us → c.pre x = true →
  FCalls P g us.toArray w fun u w' => ∃ F' S', VRep F' S' w' (c.resB (c.f x)) u ∧ Inv w0 O F' S' w' (c.memB (c.f x)) ∧ Keep F S w F' S' w'
theorem x_ok (hτ : TOK P τ) (hΓ : GamOk P Γ) (hm : P.follows .mixedOrders = true) {c : XC} {J : Hds} {k : AsD c.as → Nat} {g : FuncId} {fn : Func} {body : Code} (hf : P.funcs[g]? = some fn) (hb : fn.body = some body) (hn : (fn.name == "runtime.NumGoroutine") = false)
    (hfun : ∀ x, c.pre x = true → funE τ Γ J (asN c.as) (k x) fn (asV c.as x 0) (asM c.as x 0) (Kraw c.as c.rs) = some (c.resB (c.f x), c.memB (c.f x))) : XOk P g c := by
  intro w0 O F S w us x hI hv hp
  refine .inl ⟨enter_run hf hb hn _ w, (funE_sound hτ hΓ hm hf hb hI hv (hfun x hp)).mono fun e w' he => ?_⟩
  cases e with
  | panicked _ => exact he.elim
  | outgrown => exact he.elim
  | returned u =>
    obtain ⟨v, m', F', S', hr, hI', hk, hK⟩ := he
    obtain ⟨F2, S2, h1, h2, h3⟩ := Kraw_sound hI' hr hK
    refine ⟨F2, S2, h1, h2, ⟨fun b p hb => ?_, fun g hg => h3.s g (hk.s g hg), fun g hg => (h3.h g (hk.s g hg)).trans (hk.h g hg)⟩⟩
    have hlt : b < asN c.as := by
      rcases Nat.lt_or_ge b (asN c.as) with h | h
      · exact h
      · rw [hI.dom b (by rw [asM_len]; exact h)] at hb; cases hb
    refine h3.f b p ?_
    rw [if_pos hlt]
    exact hk.f b p (by rw [if_pos hlt]; exact hb)
end
end Go.Vi

/-
  Vi, part 27: such functions, called.
-/
namespace Go.Vi
open Go
/-! ## reading what is in canonical form -/
def readX : (t : Ty) → List V → Option (t.D × List V)
  | .unit, cs => some ((), cs)
  | .pair a b, cs => match readX a cs with
    | none => none
    | some x => match readX b x.2 with
      | none => none
      | some y => some ((x.1, y.1), y.2)
  | .int k, .d (.int k') n :: cs => if k' = k then some (n, cs) else none
  | .bool, .d .bool n :: cs => some (n, cs)
  | .str, .d .str n :: cs => some (n, cs)
  | .sl e, .d (.sl e') n :: cs => if h : e' = e then some (h ▸ n, cs) else none
  | _, _ => none
theorem readX_eq : ∀ {t : Ty} {cs : List V} {x : t.D × List V}, readX t cs = some x → cs = cellsOf t x.1 ++ x.2
  | .unit, cs, x, h => by cases h; rfl
  | .pair a b, cs, x, h => by
    simp only [readX] at h
    split at h
    · cases h
    · rename_i y hy
      split at h
      · cases h
      · rename_i z hz
        cases h
        rw [readX_eq hy, readX_eq hz]
        simp [cellsOf]
  | .int k, [], x, h => by cases h
  | .int k, v :: cs, x, h => by
    cases v with
    | d t n =>
      cases t with
      | int k' =>
        obtain ⟨e, h⟩ := ite_some (show (if k' = k then some (n, cs) else none) = some x from h)
        subst e
        cases h
        rfl
      | _ => cases h
    | _ => cases h
  | .bool, [], x, h => by cases h
  | .bool, v :: cs, x, h => by
    cases v with
    | d t n =>
      cases t with
      | bool => cases h; rfl
      | _ => cases h
    | _ => cases h
  | .str, [], x, h => by cases h
  | .str, v :: cs, x, h => by
    cases v with
    | d t n =>
      cases t with
      | str => cases h; rfl
      | _ => cases h
    | _ => cases h
  | .sl e, [], x, h => by cases h
  | .sl e, v :: cs, x, h => by
    cases v with
    | d t n =>
      cases t with
      | sl e' =>
        have h : (if h : e' = e then some ((h ▸ n : List e.D), cs) else none) = some x := h
        split at h
        · rename_i he
          subst he
          cases h
          rfl
        · cases h
      | _ => cases h
    | _ => cases h
def readS : (s : Sh) → Nat → List V → Mem → Option (s.D × List V)
  | .d t, _, cs, _ => readX t cs
  | .own e a, k, .own b none :: cs, m => if b = k then (match m[k]? with
      | some (.row e' xs a') => if h : e' = e ∧ a' = a then some (h.1 ▸ xs, cs) else none
      | _ => none) else none
  | .own _ _, _, _, _ => none
  | .unit, _, cs, _ => some ((), cs)
  | .pair a b, k, cs, m => match readS a k cs m with
    | none => none
    | some x => match readS b (k + a.n) x.2 m with
      | none => none
      | some y => some ((x.1, y.1), y.2)
/-- the memory holds these blocks from k on -/
def At_ (m : Mem) (k : Nat) (l : Mem) : Prop := ∀ (j : Nat) y, l[j]? = some y → m[k + j]? = some y
theorem At_.append {m : Mem} {k : Nat} {l l' : Mem} (h : At_ m k l) (h' : At_ m (k + l.length) l') : At_ m k (l ++ l') := by
  intro j y hj
  by_cases hlt : j < l.length
  · rw [List.getElem?_append_left hlt] at hj
    exact h j y hj
  · rw [List.getElem?_append_right (by omega)] at hj
    have := h' (j - l.length) y hj
    rwa [show k + l.length + (j - l.length) = k + j by omega] at this
theorem readS_eq {m : Mem} : ∀ {s : Sh} {k : Nat} {cs : List V} {x : s.D × List V}, readS s k cs m = some x → cs = s.cells x.1 k ++ x.2 ∧ At_ m k (s.rows x.1)
  | .d t, k, cs, x, h => ⟨readX_eq h, fun j y hj => by simp [Sh.rows] at hj⟩
  | .own e a, k, [], x, h => by cases h
  | .own e a, k, v :: cs, x, h => by
    cases v with
    | own b n =>
      cases n with
      | none =>
        obtain ⟨hb, h⟩ := ite_some (show (if b = k then (match m[k]? with
          | some (.row e' xs a') => if h : e' = e ∧ a' = a then some ((h.1 ▸ xs : List e.D), cs) else none
          | _ => none) else none) = some x from h)
        subst hb
        split at h
        · rename_i e' xs a' hm
          split at h
          · rename_i he
            obtain ⟨he, ha⟩ := he
            subst he ha
            cases h
            refine ⟨rfl, fun j y hj => ?_⟩
            cases j with
            | zero => simp only [Sh.rows, List.getElem?_cons_zero, Option.some.injEq] at hj; rw [← hj]; exact hm
            | succ j => simp [Sh.rows] at hj
          · cases h
        · cases h
      | some n => cases h
    | _ => cases h
  | .unit, k, cs, x, h => by cases h; exact ⟨rfl, fun j y hj => by simp [Sh.rows] at hj⟩
  | .pair a b, k, cs, x, h => by
    simp only [readS] at h
    split at h
    · cases h
    · rename_i y hy
      split at h
      · cases h
      · rename_i z hz
        cases h
        obtain ⟨h1, h2⟩ := readS_eq hy
        obtain ⟨h3, h4⟩ := readS_eq hz
        refine ⟨by rw [h1, h3]; simp [Sh.cells], h2.append ?_⟩
        rw [a.rows_len]; exact h4
def readA : (a : Ak) → Nat → V → Mem → Option a.D
  | .dat t, _, v, _ => match v with
    | .d t' x => if h : t' = t then some (h ▸ x) else none
    | _ => none
  | .val true s, k, v, m => match v with
    | .agg cs => match readS s k cs m with
      | some (x, []) => some x
      | _ => none
    | _ => none
  | .val false s, k, v, m => match readS s k [v] m with
    | some (x, []) => some x
    | _ => none
  | .ptr s, k, v, m => match v, m[k]? with
    | .ref b 0, some (.cells cs) => if b = k then (match readS s (k + 1) cs m with
      | some (x, []) => some x
      | _ => none) else none
    | _, _ => none
  | .fn f, _, v, _ => match v with
    | .fn (.func g) [] [] => if g = f then some () else none
    | _ => none
def readAs : (as : List Ak) → Nat → List V → Mem → Option (AsD as)
  | [], _, [], _ => some ()
  | a :: as, k, v :: vs, m => match readA a k v m with
    | some x => match readAs as (k + a.n) vs m with
      | some y => some (x, y)
      | none => none
    | none => none
  | _, _, _, _ => none
theorem readA_eq {m : Mem} {a : Ak} {k : Nat} {v : V} {x : a.D} (h : readA a k v m = some x) : v = a.v x k ∧ At_ m k (a.blks x k) := by
  cases a with
  | dat t =>
    simp only [readA] at h
    split at h
    · split at h
      · rename_i e; subst e; cases h; exact ⟨rfl, fun j y hj => by simp [Ak.blks] at hj⟩
      · cases h
    · cases h
  | val g s =>
    cases g with
    | true =>
      simp only [readA] at h
      split at h
      · split at h
        · rename_i hr
          cases h
          obtain ⟨h1, h2⟩ := readS_eq hr
          exact ⟨by simp [Ak.v, h1], h2⟩
        · cases h
      · cases h
    | false =>
      simp only [readA] at h
      split at h
      · rename_i hr
        cases h
        obtain ⟨h1, h2⟩ := readS_eq hr
        refine ⟨?_, h2⟩
        simp only [List.append_nil] at h1
        show v = (Sh.cells s x k).headD .junk
        rw [← h1]; rfl
      · cases h
  | ptr s =>
    simp only [readA] at h
    split at h
    · rename_i b cs hm
      obtain ⟨rfl, h⟩ := ite_some h
      split at h
      · rename_i hr
        cases h
        obtain ⟨h1, h2⟩ := readS_eq hr
        refine ⟨rfl, fun j y hj => ?_⟩
        cases j with
        | zero =>
          simp only [Ak.blks, List.getElem?_cons_zero, Option.some.injEq] at hj
          rw [← hj, Nat.add_zero, hm, h1]; simp
        | succ j =>
          simp only [Ak.blks, List.getElem?_cons_succ] at hj
          have := h2 j y hj
          rwa [show b + 1 + j = b + (j + 1) by omega] at this
      · cases h
    · cases h
  | fn f =>
    simp only [readA] at h
    split at h
    · obtain ⟨rfl, h⟩ := ite_some h
      exact ⟨rfl, fun j y hj => by simp [Ak.blks] at hj⟩
    · cases h
theorem readAs_eq {m : Mem} : ∀ {as : List Ak} {k : Nat} {vs : List V} {x : AsD as}, readAs as k vs m = some x → vs = asV as x k ∧ At_ m k (asM as x k)
  | [], k, [], x, h => ⟨rfl, fun j y hj => by simp [asM] at hj⟩
  | a :: as, k, v :: vs, x, h => by
    simp only [readAs] at h
    split at h
    · rename_i y hy
      split at h
      · rename_i z hz
        cases h
        obtain ⟨h1, h2⟩ := readA_eq hy
        obtain ⟨h3, h4⟩ := readAs_eq hz
        refine ⟨by rw [h1, h3]; rfl, h2.append ?_⟩
        rw [a.blks_len]; exact h4
      · cases h
    · cases h
  | [], k, _ :: _, x, h => by cases h
  | _ :: _, k, [], x, h => by cases h
/-! ## arguments -/
/-- rows of one's own, read as data -/
def peekC (m : Mem) (v : V) : V × List Nat := match v with
  | .own b n => match m[b]? with
    | some (.row e xs _) => (.d (.sl e) (pre xs n), [b])
    | some (.frz e xs) => (.d (.sl e) (pre xs n), [])
    | _ => (v, [])
  | _ => (v, [])
def peekCs (m : Mem) : List V → List V × List Nat
  | [] => ([], [])
  | v :: vs => ((peekC m v).1 :: (peekCs m vs).1, (peekC m v).2 ++ (peekCs m vs).2)
def peekV (m : Mem) (v : V) : V × List Nat := match v with
  | .agg cs => (.agg (peekCs m cs).1, (peekCs m cs).2)
  | v => peekC m v
def normA (fl : Bool) : Ak → V → Mem → Option (V × Mem × List Nat)
  | .dat t, v, m => bif fl then (match rdV t (peekV m v).1 with
      | some x => some (.d t x, m, (peekV m v).2)
      | none => none) else (match rdV t (takeV m v).1 with
      | some x => some (.d t x, (takeV m v).2, [])
      | none => none)
  | .val true s, .agg cs, m => match normS s cs m with
    | some (o, [], m') => some (.agg o, m', [])
    | _ => none
  | .val false s, v, m => bif v.plain && !aggV v then (match normS s [v] m with
    | some ([o], [], m') => some (o, m', [])
    | _ => none) else none
  | .ptr s, .ref b 0, m => match m[b]? with
    | some (.cells cs) => match normS s cs m with
      | some (o, [], m') => some (.ref b 0, m'.set b (.cells o), [])
      | _ => none
    | _ => none
  | .fn _, v, m => some (v, m, [])
  | _, _, _ => none
def normAs (fl : Bool) : List Ak → List V → Mem → Option (List V × Mem × List Nat)
  | [], [], m => some ([], m, [])
  | a :: as, v :: vs, m => match normA fl a v m with
    | some x => match normAs fl as vs x.2.1 with
      | some y => some (x.1 :: y.1, y.2.1, x.2.2 ++ y.2.2)
      | none => none
    | none => none
  | _, _, _ => none
def Ak.flatR : Ak → Bool
  | .dat t => t.flat
  | .val _ s => s.flat
  | .ptr s => s.flat
  | .fn _ => true
def Ak.flatA : Ak → Bool
  | .dat _ => true
  | .val _ s => s.flat
  | .ptr s => s.flat
  | .fn _ => true
def XC.fl (c : XC) : Bool := c.as.all Ak.flatA && c.rs.all Ak.flatR
def namesA (m : Mem) (vs : List V) : List Nat := (V.namess vs).flatMap fun b => b :: (m.getD b .dead).names
def backL (N : List Nat) : Nat → List Nat
  | 0 => []
  | n + 1 => backL N n ++ [bif has n N then idx n N else N.length + n]
def Blk.isRow : Blk → Bool
  | .row _ _ _ => true
  | _ => false
def XC.nn (c : XC) : Nat := asNN c.as + asN c.rs
def memL (L : At) (m : Mem) (n : Nat) : Mem := match L with
  | none => m ++ List.replicate n .dead
  | some _ => m
def newL (L : At) (m : Mem) (n : Nat) : List Nat := match L with
  | none => List.range' m.length n
  | some l => l.take n
def XC.find (c : XC) (L : At) (m : Mem) (args : List V) : Option (Bool × V × Mem) := match normAs c.fl c.as args m with
  | none => none
  | some x =>
    let N := namesA x.2.1 x.1
    let m2 := memL L x.2.1 c.nn
    let N' := N ++ newL L x.2.1 c.nn
    if (nodupB N' && N'.all (fun b => Nat.blt b m2.length) && Nat.beq N.length (asN c.as) && Nat.beq N'.length (asN c.as + c.nn) && disj x.2.2 N' && x.2.2.all (fun b => (x.2.1.getD b .dead).isRow)) = true then
      match readAs c.as 0 (V.rens (keepF N) x.1) (N.map fun b => ((restrM N' 0 m2).getD b .dead).ren (keepF N)) with
      | none => none
      | some y => some (c.pre y, (c.resB (c.f y)).ren (keepF (backL N' m2.length)), mergeM N' N' ((backL N' m2.length).map fun i => ((c.memB (c.f y)).getD i .dead).ren (keepF (backL N' m2.length))) 0 m2)
    else none
def findL (L : At) (m : Mem) (args : List V) : List XC → Option (Bool × V × Mem)
  | [] => none
  | c :: cs => match c.find L m args with
    | some r => some r
    | none => findL L m args cs
def lookX : List (FuncId × XC) → FuncId → List XC
  | [], _ => []
  | x :: l, g => bif Nat.beq x.1 g then x.2 :: lookX l g else lookX l g
def gamX (tb : List (FuncId × XC)) : Gam R0 := fun g L args m K => match findL L m args (lookX tb g) with
  | some r => chk r.1 (K r.2.1 r.2.2)
  | none => none
section
variable {F F' : Nat → Option Pl} {S S' : Nat → Prop} {w w' w0 : World} {O : Nat → Prop} {m : Mem} {P : Program} {τ : Tau} {Γ : Gam R0}
/-- what is flat looks at no block -/
theorem RepD.flat : ∀ {t : Ty} {x : t.D} {cs : List Value}, t.flat = true → RepD S w t x cs → RepD S' w' t x cs
  | .int _, _, _, _, h => by simpa only [RepD] using h
  | .bool, _, _, _, h => by simpa only [RepD] using h
  | .str, _, _, _, h => by simpa only [RepD] using h
  | .unit, _, _, _, h => by simpa only [RepD] using h
  | .sl _, _, _, hf, h => by cases hf
  | .pair a b, x, cs, hf, h => by
    have hf' : a.flat = true ∧ b.flat = true := by simpa [Ty.flat] using hf
    simp only [RepD] at h ⊢
    obtain ⟨c1, c2, rfl, h1, h2⟩ := h
    exact ⟨c1, c2, rfl, h1.flat hf'.1, h2.flat hf'.2⟩
theorem cells_flat : ∀ {s : Sh} {x : s.D} {k : Nat} {us : List Value}, s.flat = true → VReps F S w (s.cells x k) us → VReps F S' w (s.cells x k) us
  | .d t, x, k, us, hf, h => cellsOf_rep ((cellsOf_inv h).flat hf)
  | .own e a, x, k, us, hf, h => by
    obtain ⟨u, us', rfl, h0, h1⟩ := h.head
    have := h1.nil_inv
    subst this
    refine .cons ?_ .nil
    obtain ⟨p, ad, l, g1, g2, g3, rfl⟩ := h0.own_inv
    exact .own g1 g2 g3
  | .unit, x, k, us, hf, h => by rw [h.nil_inv]; exact .nil
  | .pair a b, x, k, us, hf, h => by
    have hf' : a.flat = true ∧ b.flat = true := by simpa [Sh.flat] using hf
    have hl : us = us.take (a.cells x.1 k).length ++ us.drop (a.cells x.1 k).length := (List.take_append_drop _ _).symm
    rw [hl]
    have h1 : VReps F S w (a.cells x.1 k) (us.take (a.cells x.1 k).length) := by
      have := h.take (a.cells x.1 k).length
      simpa [Sh.cells] using this
    have h2 : VReps F S w (b.cells x.2 (k + a.n)) (us.drop (a.cells x.1 k).length) := by
      have := h.drop (a.cells x.1 k).length
      simpa [Sh.cells] using this
    exact (cells_flat hf'.1 h1).append (cells_flat hf'.2 h2)
theorem akv_flat {a : Ak} {x : a.D} {k : Nat} {u : Value} (hf : a.flatR = true) (h : VRep F S w (a.v x k) u) : VRep F S' w (a.v x k) u := by
  cases a with
  | dat t =>
    obtain ⟨cs, hc, rfl⟩ := h.d_inv
    exact .d (hc.flat hf)
  | val g s =>
    cases g with
    | true =>
      obtain ⟨us, rfl, hr, h1⟩ := h.agg_inv
      have := cells_flat (S' := S') hf hr
      exact .agg (by simpa using this.len) (fun i v u hv hu => this.at_ i v u hv (by simpa using hu)) h1
    | false =>
      have key : ∀ l : List V, (l = [] → False) → (∀ {us}, VReps F S w l us → VReps F S' w l us) → VRep F S w (l.headD .junk) u → l.length = 1 → VRep F S' w (l.headD .junk) u := by
        intro l _ hk h hl
        match l, hl with
        | [v], _ =>
          obtain ⟨u', us', he, h0, _⟩ := (hk (VReps.cons h .nil)).head
          cases he
          exact h0
      have hv : ∀ (l : List V), (∀ {us}, VReps F S w l us → VReps F S' w l us) → VRep F S w (l.headD .junk) u → (∀ us : List Value, us.length = l.length → VReps F S w (l.drop 1) (us.drop 1) → True) → True := fun _ _ _ _ => trivial
      show VRep F S' w ((Sh.cells s x k).headD .junk) u
      have h : VRep F S w ((Sh.cells s x k).headD .junk) u := h
      clear hv key
      -- the head of the cells alone
      have head : ∀ {s : Sh} {x : s.D} {k : Nat}, s.flat = true → ∀ v, (s.cells x k).head? = some v → VRep F S w v u → VRep F S' w v u := by
        intro s
        induction s with
        | d t =>
          intro x k hf v hv h
          have hc : ∀ {t : Ty} {x : t.D}, t.flat = true → (cellsOf t x).head? = some v → VRep F S' w v u := by
            intro t
            induction t with
            | int k => intro x hf hv; cases hv; rw [h.int_inv]; exact .int
            | bool => intro x hf hv; cases hv; rw [h.bool_inv]; exact .bool
            | str => intro x hf hv; cases hv; rw [h.str_inv]; exact .str
            | sl e => intro x hf hv; cases hf
            | unit => intro x hf hv; cases hv
            | pair a b ia ib =>
              intro x hf hv
              have hf' : a.flat = true ∧ b.flat = true := by simpa [Ty.flat] using hf
              simp only [cellsOf, List.head?_append] at hv
              cases h1 : (cellsOf a x.1).head? with
              | some v' => rw [h1] at hv; cases hv; exact ia hf'.1 h1
              | none => rw [h1] at hv; exact ib hf'.2 (by simpa using hv)
          exact hc hf hv
        | own e a =>
          intro x k hf v hv h
          cases hv
          obtain ⟨p, ad, l, g1, g2, g3, rfl⟩ := h.own_inv
          exact .own g1 g2 g3
        | unit => intro x k hf v hv h; cases hv
        | pair a b ia ib =>
          intro x k hf v hv h
          have hf' : a.flat = true ∧ b.flat = true := by simpa [Sh.flat] using hf
          simp only [Sh.cells, List.head?_append] at hv
          cases h1 : (a.cells x.1 k).head? with
          | some v' => rw [h1] at hv; cases hv; exact ia hf'.1 _ h1 h
          | none => rw [h1] at hv; exact ib hf'.2 _ (by simpa using hv) h
      cases hh : (Sh.cells s x k).head? with
      | none =>
        have : Sh.cells s x k = [] := by simpa using hh
        rw [this]; exact .junk
      | some v =>
        have e : (Sh.cells s x k).headD .junk = v := by rw [List.headD_eq_head?_getD, hh]; rfl
        rw [e] at h ⊢
        exact head hf v hh h
  | ptr s =>
    obtain ⟨p, hp, rfl⟩ := h.ref_inv
    exact .ref hp
  | fn f =>
    obtain ⟨a', c', rfl, r1, r2⟩ := h.fn_inv
    exact .fn (by simpa using r1.len) (by simpa using r2.len) (fun i v u hv _ => by simp at hv) (fun i v u hv _ => by simp at hv)
theorem asV_flat : ∀ {as : List Ak} {x : AsD as} {k : Nat} {us : List Value}, as.all Ak.flatR = true → VReps F S w (asV as x k) us → VReps F S' w (asV as x k) us
  | [], _, _, us, _, h => by rw [h.nil_inv]; exact .nil
  | a :: as, x, k, us, hf, h => by
    obtain ⟨u, us', rfl, h0, h1⟩ := h.head
    simp only [List.all_cons, Bool.and_eq_true] at hf
    exact .cons (akv_flat hf.1 h0) (asV_flat hf.2 h1)
theorem tupl_flat {vs : List V} {u : Value} (h : VRep F S w (tupl vs) u) (hf : ∀ us : List Value, VReps F S w vs us → VReps F S' w vs us) : VRep F S' w (tupl vs) u := by
  match vs, hf, h with
  | [v], hf, h =>
    obtain ⟨u', us', he, h0, _⟩ := (hf [u] (VReps.cons h .nil)).head
    cases he
    exact h0
  | [], hf, h =>
    obtain ⟨us, rfl, hr⟩ := VRep.tup_inv (show VRep F S w (.tup []) u from h)
    exact .tup (by simpa using hr.len) (fun i v u hv hu => by simp at hv)
  | v1 :: v2 :: l, hf, h =>
    obtain ⟨us, rfl, hr⟩ := VRep.tup_inv (show VRep F S w (.tup (v1 :: v2 :: l)) u from h)
    have := hf _ hr
    exact .tup (by simpa using this.len) (fun i v u hv hu => this.at_ i v u hv (by simpa using hu))
/-- blocks that look at none that is written no more -/
def Blk.free (S' : Nat → Prop) (F : Nat → Option Pl) (S : Nat → Prop) (w : World) (x : Blk) : Prop := ∀ p, BRep F S w p x → BRep F S' w p x
theorem free_rows : ∀ {s : Sh} {x : s.D}, s.flat = true → ∀ y ∈ s.rows x, Blk.free S' F S w y
  | .d t, x, hf, y, hy => by simp [Sh.rows] at hy
  | .unit, x, hf, y, hy => by simp [Sh.rows] at hy
  | .own e a, x, hf, y, hy => by
    simp only [Sh.rows, List.mem_singleton] at hy
    subst hy
    rintro p ⟨h0, h1, h2, h3⟩
    refine ⟨h0, h1, h2, fun hc => ?_⟩
    obtain ⟨arr, T, fr, g1, g2, g3, g4, g5⟩ := h3 hc
    refine ⟨arr, T, fr, g1, g2, g3, fun i x hx => ?_, g5⟩
    obtain ⟨ec, q1, q2⟩ := g4 i x hx
    exact ⟨ec, q1.flat hf, q2⟩
  | .pair a b, x, hf, y, hy => by
    have hf' : a.flat = true ∧ b.flat = true := by simpa [Sh.flat] using hf
    simp only [Sh.rows, List.mem_append] at hy
    exact hy.elim (free_rows hf'.1 y) (free_rows hf'.2 y)
theorem free_cells {s : Sh} {x : s.D} {k : Nat} (hf : s.flat = true) : Blk.free S' F S w (.cells (s.cells x k)) := by
  rintro p ⟨h0, arr, T, hh, hr, h1⟩
  exact ⟨h0, arr, T, hh, cells_flat hf hr, h1⟩
theorem free_asM : ∀ {as : List Ak} {x : AsD as} {k : Nat}, as.all Ak.flatR = true → ∀ y ∈ asM as x k, Blk.free S' F S w y
  | [], _, _, _, y, hy => by simp [asM] at hy
  | a :: as, x, k, hf, y, hy => by
    simp only [List.all_cons, Bool.and_eq_true] at hf
    simp only [asM, List.mem_append] at hy
    refine hy.elim (fun hy => ?_) (free_asM hf.2 y)
    cases a with
    | dat t => simp [Ak.blks] at hy
    | val g s => exact free_rows hf.1 y hy
    | ptr s =>
      simp only [Ak.blks, List.mem_cons] at hy
      rcases hy with rfl | hy
      · exact free_cells hf.1
      · exact free_rows hf.1 y hy
    | fn f => simp [Ak.blks] at hy
theorem free_after : ∀ {as : List Ak} {z : AsY as} {k : Nat}, as.all Ak.flatA = true → ∀ y ∈ asAfter as z k, Blk.free S' F S w y
  | [], _, _, _, y, hy => by simp [asAfter] at hy
  | a :: as, z, k, hf, y, hy => by
    simp only [List.all_cons, Bool.and_eq_true] at hf
    simp only [asAfter, List.mem_append] at hy
    refine hy.elim (fun hy => ?_) (free_after hf.2 y)
    cases a with
    | dat t => simp [Ak.after] at hy
    | val g s => exact free_rows hf.1 y hy
    | ptr s =>
      simp only [Ak.after, List.mem_cons, List.mem_replicate] at hy
      rcases hy with rfl | ⟨_, rfl⟩
      · exact free_cells hf.1
      · intro p h; exact h
    | fn f => simp [Ak.after] at hy
theorem free_news : ∀ {as : List Ak} {z : AsY as}, as.all Ak.flatA = true → ∀ y ∈ asNews as z, Blk.free S' F S w y
  | [], _, _, y, hy => by simp [asNews] at hy
  | a :: as, z, hf, y, hy => by
    simp only [List.all_cons, Bool.and_eq_true] at hf
    simp only [asNews, List.mem_append] at hy
    refine hy.elim (fun hy => ?_) (free_news hf.2 y)
    cases a with
    | ptr s => exact free_rows hf.1 y hy
    | dat t => simp [Ak.news] at hy
    | val g s => simp [Ak.news] at hy
    | fn f => simp [Ak.news] at hy
theorem free_memB {c : XC} {y : AsD c.rs × AsY c.as} (hf : c.fl = true) : ∀ x ∈ c.memB y, Blk.free S' F S w x := by
  intro x hx
  unfold XC.fl at hf
  rw [Bool.and_eq_true] at hf
  simp only [XC.memB, List.mem_append] at hx
  rcases hx with hx | hx | hx
  · exact free_after hf.1 x hx
  · exact free_news hf.1 x hx
  · exact free_asM hf.2 x hx
/-! ## arguments -/
def Tp (F : Nat → Option Pl) (T : List Nat) (g : Nat) : Prop := ∃ b ∈ T, ∃ p, F b = some p ∧ 0 < p.cap ∧ p.g = g
def SP (S : Nat → Prop) (F : Nat → Option Pl) (T : List Nat) (g : Nat) : Prop := S g ∨ Tp F T g
def rowsAt (m : Mem) (T : List Nat) : Prop := ∀ b ∈ T, ∃ e xs a, m[b]? = some (Blk.row e xs a)
theorem sp_mono {T T' : List Nat} (hF : ∀ b p, F b = some p → F' b = some p) (hS : ∀ g, S g → S' g) (hT : ∀ b ∈ T, b ∈ T') {g : Nat} (h : SP S F T g) : SP S' F' T' g :=
  h.imp (hS g) fun ⟨b, hb, p, h1, h2⟩ => ⟨b, hT b hb, p, hF b p h1, h2⟩
theorem keep_sp (T : List Nat) : Keep F S w F (SP S F T) w := ⟨fun _ _ h => h, fun _ h => .inl h, fun _ _ => rfl⟩
theorem peekC_sound (hI : Inv w0 O F S w m) {v : V} {u : Value} (h : VRep F S w v u) : VRep F (SP S F (peekC m v).2) w (peekC m v).1 u ∧ rowsAt m (peekC m v).2 := by
  unfold peekC
  split
  · rename_i b n
    obtain ⟨p, a, l, hf, hn, ha, rfl⟩ := h.own_inv
    split
    · rename_i e xs q hm
      obtain ⟨h0, ⟨hl, hc⟩, h2, h3⟩ := hI.blk b _ p hm hf
      have hpl : (pre xs n).length = l := pre_len (by rw [← hl]; exact hn)
      refine ⟨?_, fun c hc => by simp at hc; subst hc; exact ⟨e, xs, q, hm⟩⟩
      rw [← hpl]
      refine .sl (by rw [hpl]; cases n <;> simp at hn <;> omega) ?_
      by_cases h0 : pre xs n = []
      · exact .inl h0
      · right
        have : 0 < (pre xs n).length := List.length_pos_iff.2 h0
        have hcap : 0 < p.cap := by rw [hpl] at this; cases n <;> simp at hn <;> omega
        obtain ⟨arr, T, fr, hh, _, hs, hel, _⟩ := h3 hcap
        refine ⟨p.g, p.o, ha hcap, .inr ⟨b, by simp, p, hf, hcap, rfl⟩, fun i x hx => ?_⟩
        obtain ⟨ec, hd, hcell⟩ := hel i x (pre_get hx)
        refine ⟨ec, hd.keep (fun _ h => .inl h) (fun _ _ => rfl), fun j v hv => ?_⟩
        rw [cell_of_row w _ _ arr T fr hh]
        exact hcell j v hv
    · rename_i e xs hm
      obtain ⟨hz, ⟨hl, hc⟩, hr⟩ := hI.blk b _ p hm hf
      refine ⟨VRep.keep (keep_sp _) ?_, fun c hc => by simp at hc⟩
      have hpl : (pre xs n).length = l := pre_len (by rw [← hl]; exact hn)
      rw [← hpl]
      refine .sl (by rw [hpl]; cases n <;> simp at hn <;> omega) ?_
      by_cases h0 : pre xs n = []
      · exact .inl h0
      · right
        have : 0 < (pre xs n).length := List.length_pos_iff.2 h0
        have hcap : 0 < p.cap := by rw [hpl] at this; cases n <;> simp at hn <;> omega
        obtain ⟨s1, s2⟩ := hr hcap
        exact ⟨p.g, p.o, ha hcap, s1, fun i x hx => s2 i x (pre_get hx)⟩
    · exact ⟨h.keep (keep_sp _), fun c hc => by simp at hc⟩
  · exact ⟨h.keep (keep_sp _), fun c hc => by simp at hc⟩
theorem keep_spT {T T' : List Nat} (hT : ∀ b ∈ T, b ∈ T') : Keep F (SP S F T) w F (SP S F T') w := ⟨fun _ _ h => h, fun _ h => sp_mono (fun _ _ h => h) (fun _ h => h) hT h, fun _ _ => rfl⟩
theorem peekCs_sound (hI : Inv w0 O F S w m) : ∀ {vs : List V} {us : List Value}, VReps F S w vs us → VReps F (SP S F (peekCs m vs).2) w (peekCs m vs).1 us ∧ rowsAt m (peekCs m vs).2
  | [], us, h => ⟨h.keep (keep_sp _), fun c hc => by simp [peekCs] at hc⟩
  | v :: vs, us, h => by
    obtain ⟨u, us', rfl, h0, h1⟩ := h.head
    obtain ⟨r1, t1⟩ := peekC_sound hI h0
    obtain ⟨r2, t2⟩ := peekCs_sound hI h1
    refine ⟨.cons (r1.keep (keep_spT fun b hb => List.mem_append_left _ hb)) (r2.keep (keep_spT fun b hb => List.mem_append_right _ hb)), fun b hb => ?_⟩
    rcases List.mem_append.1 hb with hb | hb
    · exact t1 b hb
    · exact t2 b hb
theorem peekV_sound (hI : Inv w0 O F S w m) {v : V} {u : Value} (h : VRep F S w v u) : VRep F (SP S F (peekV m v).2) w (peekV m v).1 u ∧ rowsAt m (peekV m v).2 := by
  unfold peekV
  split
  · obtain ⟨us, rfl, hr, h1⟩ := h.agg_inv
    obtain ⟨r1, t1⟩ := peekCs_sound hI hr
    exact ⟨by simpa using VRep.of_agg r1 (fun c hc => h1 c (by simpa using hc)), t1⟩
  · exact peekC_sound hI h
/-- names that are free stay so -/
def Stays (m m' : Mem) (F F' : Nat → Option Pl) : Prop := m.length ≤ m'.length ∧ ∀ b, m[b]? = some .dead → m'[b]? = some .dead ∧ F' b = F b
theorem Stays.refl (m : Mem) (F : Nat → Option Pl) : Stays m m F F := ⟨Nat.le_refl _, fun _ h => ⟨h, rfl⟩⟩
theorem Stays.trans {m1 m2 m3 : Mem} {F1 F2 F3 : Nat → Option Pl} (a : Stays m1 m2 F1 F2) (b : Stays m2 m3 F2 F3) : Stays m1 m3 F1 F3 :=
  ⟨Nat.le_trans a.1 b.1, fun c h => ⟨(b.2 c (a.2 c h).1).1, (b.2 c (a.2 c h).1).2.trans (a.2 c h).2⟩⟩
theorem normA_sound {fl : Bool} {a : Ak} (hI : Inv w0 O F S w m) {v : V} {u : Value} {x : V × Mem × List Nat} (hv : VRep F S w v u) (h : normA fl a v m = some x) (ha : fl = true → a.flatA = true) :
    ∃ F' S', Inv w0 O F' S' w x.2.1 ∧ Keep F S w F' S' w ∧ VRep F' (SP S' F' x.2.2) w x.1 u ∧ (fl = true → S' = S) ∧ (fl = false → x.2.2 = []) ∧ Stays m x.2.1 F F' := by
  unfold normA at h
  split at h
  · cases fl with
    | true =>
      rw [cond_true] at h
      split at h
      · rename_i y hy
        cases h
        exact ⟨F, S, hI, .refl _ _ _, rdV_rep (peekV_sound hI hv).1 hy, fun _ => rfl, fun h => (by cases h), Stays.refl _ _⟩
      · cases h
    | false =>
      rw [cond_false] at h
      split at h
      · rename_i y hy
        cases h
        obtain ⟨S1, i1, k1, r1⟩ := takeV_sound hI hv
        exact ⟨F, S1, i1, k1, (rdV_rep r1 hy).keep (keep_sp _), fun h => (by cases h), fun _ => rfl, ⟨by rw [takeV_length]; exact Nat.le_refl _, fun b h => ⟨takeV_dead h, rfl⟩⟩⟩
      · cases h
  · rename_i s cs
    split at h
    · rename_i hn
      cases h
      obtain ⟨us, rfl, hr, h1⟩ := hv.agg_inv
      obtain ⟨F1, S1, u1, u2, hus, i1, k1, o1, r1, e1, l1, c1, d1⟩ := normS_sound hI hr hn
      have := r1.nil_inv
      subst this
      rw [List.append_nil] at hus
      subst hus
      exact ⟨F1, S1, i1, k1, VRep.keep (keep_sp _) (by simpa using VRep.of_agg o1 (fun c hc => h1 c (by simpa using hc))), fun h => e1 (ha h), fun _ => rfl, l1, d1⟩
    · cases h
  · rename_i s
    cases hb : v.plain && !aggV v with
    | false => rw [hb] at h; cases h
    | true =>
      rw [hb, cond_true] at h
      split at h
      · rename_i o m' hn
        cases h
        obtain ⟨F1, S1, u1, u2, hus, i1, k1, o1, r1, e1, l1, c1, d1⟩ := normS_sound hI (.cons hv .nil) hn
        have := r1.nil_inv
        subst this
        rw [List.append_nil] at hus
        subst hus
        obtain ⟨u', us', he, h0, _⟩ := o1.head
        cases he
        exact ⟨F1, S1, i1, k1, h0.keep (keep_sp _), fun h => e1 (ha h), fun _ => rfl, l1, d1⟩
      · cases h
  · rename_i s b
    split at h
    · rename_i cs hm
      split at h
      · rename_i o m1 hn
        cases h
        obtain ⟨p, hF, rfl⟩ := hv.ref_inv
        obtain ⟨ho, arr, T, hh, hr, h1⟩ := hI.blk b _ p hm hF
        obtain ⟨F1, S1, u1, u2, hus, i1, k1, o1, r1, e1, l1, c1, d1⟩ := normS_sound hI hr hn
        have := r1.nil_inv
        subst this
        rw [List.append_nil] at hus
        subst hus
        have i2 := i1.reblk (y := .cells o) (c1 b cs hm) (fun p' hp' => by
          rw [k1.f b p hF] at hp'
          cases hp'
          exact ⟨ho, arr, T, hh, o1, h1⟩) (fun p h => h) (by simp)
        refine ⟨F1, S1, i2, k1, .ref (k1.f b p hF), fun h => e1 (ha h), fun _ => rfl, ⟨by simpa using l1, fun c hc => ?_⟩⟩
        have := d1 c hc
        exact ⟨dead_set this.1 (c1 b cs hm) (by simp), this.2⟩
      · cases h
    · cases h
  · cases h
    exact ⟨F, S, hI, .refl _ _ _, hv.keep (keep_sp _), fun _ => rfl, fun _ => rfl, Stays.refl _ _⟩
  · cases h
theorem normAs_sound {fl : Bool} : ∀ {as : List Ak} {vs : List V} {us : List Value} {F : Nat → Option Pl} {S : Nat → Prop} {m : Mem} {x : List V × Mem × List Nat}, Inv w0 O F S w m → VReps F S w vs us → normAs fl as vs m = some x → (fl = true → as.all Ak.flatA = true) →
    ∃ F' S', Inv w0 O F' S' w x.2.1 ∧ Keep F S w F' S' w ∧ VReps F' (SP S' F' x.2.2) w x.1 us ∧ (fl = true → S' = S) ∧ (fl = false → x.2.2 = []) ∧ Stays m x.2.1 F F'
  | [], [], us, F, S, m, x, hI, hv, h, _ => by
    cases h
    exact ⟨F, S, hI, .refl _ _ _, hv.keep (keep_sp _), fun _ => rfl, fun _ => rfl, Stays.refl _ _⟩
  | a :: as, v :: vs, us, F, S, m, x, hI, hv, h, ha => by
    obtain ⟨u, us', rfl, h0, h1⟩ := hv.head
    simp only [normAs] at h
    split at h
    · rename_i y hy
      split at h
      · rename_i z hz
        cases h
        obtain ⟨F1, S1, i1, k1, r1, e1, t1, s1⟩ := normA_sound hI h0 hy (fun h => by have := ha h; simp only [List.all_cons, Bool.and_eq_true] at this; exact this.1)
        obtain ⟨F2, S2, i2, k2, r2, e2, t2, s2⟩ := normAs_sound i1 (h1.keep k1) hz (fun h => by have := ha h; simp only [List.all_cons, Bool.and_eq_true] at this; exact this.2)
        refine ⟨F2, S2, i2, k1.trans k2, .cons (r1.keep ⟨k2.f, fun g h => sp_mono k2.f k2.s (fun b hb => List.mem_append_left _ hb) h, fun _ _ => rfl⟩) (r2.keep (keep_spT fun b hb => List.mem_append_right _ hb)), fun h => (e2 h).trans (e1 h), fun h => ?_, s1.trans s2⟩
        show y.2.2 ++ z.2.2 = []
        rw [t1 h, t2 h]; rfl
      · cases h
    · cases h
  | [], _ :: _, us, F, S, m, x, hI, hv, h, _ => by cases h
  | _ :: _, [], us, F, S, m, x, hI, hv, h, _ => by cases h
theorem backL_len (N : List Nat) : ∀ n, (backL N n).length = n
  | 0 => rfl
  | n + 1 => by simp [backL, backL_len N n]
theorem backL_get (N : List Nat) : ∀ (n b : Nat), b < n → (backL N n)[b]? = some (bif has b N then idx b N else N.length + b)
  | 0, b, h => by omega
  | n + 1, b, h => by
    simp only [backL]
    by_cases hb : b < n
    · rw [List.getElem?_append_left (by rw [backL_len]; exact hb)]
      exact backL_get N n b hb
    · have : b = n := by omega
      subst this
      rw [List.getElem?_append_right (by rw [backL_len]; exact Nat.le_refl _), backL_len]
      simp
theorem idx_lt {b : Nat} {N : List Nat} (h : b ∈ N) : idx b N < N.length := (List.getElem?_eq_some_iff.1 (idx_get h)).1
theorem backL_nodup (N : List Nat) : ∀ n, (backL N n).Nodup
  | 0 => List.nodup_nil
  | n + 1 => by
    simp only [backL]
    rw [List.nodup_append]
    refine ⟨backL_nodup N n, by simp, fun a ha b hb => ?_⟩
    simp only [List.mem_singleton] at hb
    subst hb
    obtain ⟨c, hc⟩ := List.getElem?_of_mem ha
    have hlt : c < n := by have := (List.getElem?_eq_some_iff.1 hc).1; rwa [backL_len] at this
    rw [backL_get N n c hlt] at hc
    intro e
    subst e
    have hc := Option.some.inj hc
    cases h1 : has c N with
    | true =>
      have i1 := idx_lt (has_iff.1 h1)
      cases h2 : has n N with
      | true =>
        rw [h1, h2] at hc
        simp only [cond_true] at hc
        have g1 := idx_get (has_iff.1 h1)
        have g2 := idx_get (has_iff.1 h2)
        rw [hc, g2] at g1
        cases g1
        omega
      | false => rw [h1, h2] at hc; simp only [cond_true, cond_false] at hc; omega
    | false =>
      cases h2 : has n N with
      | true =>
        have i2 := idx_lt (has_iff.1 h2)
        rw [h1, h2] at hc; simp only [cond_true, cond_false] at hc; omega
      | false => rw [h1, h2] at hc; simp only [cond_false] at hc; omega
theorem disj_iff {a b : List Nat} (h : disj a b = true) : ∀ x ∈ a, x ∉ b := by
  intro x hx hb
  unfold disj at h
  rw [List.all_eq_true] at h
  have := h x hx
  rw [has_iff.2 hb] at this
  cases this
theorem eq_of_at {m l : Mem} (h : At_ m 0 l) (hl : m.length = l.length) : m = l := by
  apply List.ext_getElem?
  intro i
  by_cases hi : i < l.length
  · have := h i l[i] (List.getElem?_eq_getElem hi)
    rw [Nat.zero_add] at this
    rw [this, List.getElem?_eq_getElem hi]
  · rw [List.getElem?_eq_none (by omega), List.getElem?_eq_none (by omega)]
theorem find_sound {c : XC} {g : FuncId} {L : At} {args : List V} {us : List Value} {r : Bool × V × Mem} (hx : XOk P g c) (h : c.find L m args = some r) (hp : r.1 = true) (hI : Inv w0 O F S w m) (hL : AtOk L F m) (ha : VReps F S w args us) :
    FCalls P g us.toArray w fun u w' => ∃ F' S', VRep F' S' w' r.2.1 u ∧ Inv w0 O F' S' w' r.2.2 ∧ Keep F S w F' S' w' := by
  unfold XC.find at h
  split at h
  · cases h
  · rename_i x hn
    obtain ⟨F1, S1, i1, k1, r1, e1, t1, st⟩ := normAs_sound hI ha hn (fun h => by unfold XC.fl at h; rw [Bool.and_eq_true] at h; exact h.1)
    simp only at h
    -- the memory with its new names
    have hm2 : ∃ (NN : List Nat) (m2 : Mem), Inv w0 O F1 S1 w m2 ∧ (∀ i ∈ NN, m2[i]? = some .dead ∧ F1 i = none) ∧ (∀ (b : Nat) (x' : Blk), x.2.1[b]? = some x' → m2[b]? = some x') ∧ memL L x.2.1 c.nn = m2 ∧ newL L x.2.1 c.nn = NN := by
      cases L with
      | none =>
        refine ⟨_, _, i1.more c.nn, fun i hi => ?_, fun b x' hb => ?_, rfl, rfl⟩
        · obtain ⟨h1, h2⟩ := List.mem_range'_1.1 hi
          refine ⟨?_, i1.dom i h1⟩
          rw [List.getElem?_append_right h1, List.getElem?_replicate, if_pos (by omega)]
        · rw [List.getElem?_append_left (List.getElem?_eq_some_iff.1 hb).1]; exact hb
      | some l =>
        refine ⟨_, _, i1, fun i hi => ?_, fun b x' hb => hb, rfl, rfl⟩
        obtain ⟨h1, h2⟩ := (hL l rfl).2 i (List.mem_of_mem_take hi)
        exact ⟨(st.2 i h1).1, (st.2 i h1).2.trans h2⟩
    obtain ⟨NN, m2, i2, hNN, hmm, em, en⟩ := hm2
    rw [em, en] at h
    clear em en
    obtain ⟨hchk, h⟩ := ite_some h
    simp only [Bool.and_eq_true] at hchk
    obtain ⟨⟨⟨⟨⟨c1, c2⟩, c3⟩, c4⟩, c5⟩, c6⟩ := hchk
    generalize hN : namesA x.2.1 x.1 = N at h c1 c2 c3 c4 c5
    have hnd := nodupB_iff c1
    rw [List.all_eq_true] at c2 c6
    have hlt : ∀ b ∈ N ++ NN, b < m2.length := fun b hb => by simpa [Nat.blt_eq] using c2 b hb
    have hlN : N.length = asN c.as := Nat.eq_of_beq_eq_true c3
    have hlN' : (N ++ NN).length = asN c.as + c.nn := Nat.eq_of_beq_eq_true c4
    have hdis := disj_iff c5
    split at h
    · cases h
    · rename_i y hy
      cases h
      have hp : c.pre y = true := hp
      obtain ⟨hv, hat⟩ := readAs_eq hy
      -- the canonical memory
      have hR := i2.restr (N ++ NN)
      have hndN : N.Nodup := (List.nodup_append.1 hnd).1
      obtain ⟨hC, ren⟩ := hR.rename hndN
      have hmem := eq_of_at hat (by rw [asM_len, List.length_map, hlN])
      rw [hmem] at hC
      have hrow : ∀ {g : Nat}, Tp F1 x.2.2 g → ∃ b p z, b ∈ x.2.2 ∧ F1 b = some p ∧ m2[b]? = some z ∧ z.hot p ∧ p.g = g := by
        rintro g ⟨b, hb, p, h1, h2, h3⟩
        have := c6 b hb
        cases hz : x.2.1[b]? with
        | none => rw [List.getD_eq_getElem?_getD, hz] at this; cases this
        | some z =>
          rw [List.getD_eq_getElem?_getD, hz] at this
          refine ⟨b, p, z, hb, h1, hmm b z hz, ?_, h3⟩
          cases z with
          | row e xs a => exact h2
          | _ => cases this
      -- rows that are read are written no more, for this call
      have hC2 : Inv w (fun g => O1 w0 O F1 m2 (N ++ NN) g ∨ Tp F1 x.2.2 g) (fun c => (N[c]?).bind F1) (SP S1 F1 x.2.2) w (asM c.as y 0) := by
        refine ⟨⟨rfl, rfl, rfl, Nat.le_refl _, fun _ _ _ => rfl⟩, hC.dom, fun b z p hz hp => ?_, hC.sep, fun b z p hz hp hh => ?_, fun g hg => ?_, fun g hg hlt => ?_, hC.is⟩
        · exact BRep.keep (F := fun c => (N[c]?).bind F1) ⟨fun _ _ h => h, fun _ h => .inl h, fun _ _ => rfl⟩ (fun _ => rfl) (hC.blk b z p hz hp)
        · obtain ⟨h1, h2, h3⟩ := hC.out b z p hz hp hh
          refine ⟨fun hs => hs.elim h1 fun ht => ?_, h2, h3.imp .inl id⟩
          obtain ⟨b', p', z', hb', hF', hz', hh', he⟩ := hrow ht
          -- b is of N, b' is not
          have hb : ∃ b0 z0, b0 ∈ N ∧ F1 b0 = some p ∧ m2[b0]? = some z0 ∧ z0.hot p := by
            rw [← hmem, List.getElem?_map, Option.map_eq_some_iff] at hz
            obtain ⟨b0, hb0, rfl⟩ := hz
            have hp : (N[b]?).bind F1 = some p := hp
            rw [hb0] at hp
            have hmemb : b0 ∈ N := List.mem_of_getElem? hb0
            have hh := hot_ren.1 hh
            cases hz0 : (restrM (N ++ NN) 0 m2)[b0]? with
            | none => rw [List.getD_eq_getElem?_getD, hz0] at hh; exact hh.elim
            | some z0 =>
              rw [List.getD_eq_getElem?_getD, hz0] at hh
              rw [restrM_get, Option.map_eq_some_iff] at hz0
              obtain ⟨z1, hz1, e⟩ := hz0
              rw [Nat.zero_add, has_iff.2 (List.mem_append_left NN hmemb), cond_true] at e
              subst e
              exact ⟨b0, _, hmemb, hp, hz1, hh⟩
          obtain ⟨b0, z0, hb0, hF0, hz0, hh0⟩ := hb
          exact i2.sep b0 b' z0 z' p p' hz0 hz' hF0 hF' hh0 hh' (fun e => hdis b' hb' (e ▸ List.mem_append_left _ hb0)) he.symm
        · rcases hg with hg | hg
          · exact hC.sb g hg
          · obtain ⟨b', p', z', hb', hF', hz', hh', rfl⟩ := hrow hg
            exact (i2.out b' z' p' hz' hF' hh').2.1
        · rcases hg with hg | hg
          · exact .inl (hC.so g hg hlt)
          · exact .inr hg
      have hr2 : VReps (fun c => (N[c]?).bind F1) (SP S1 F1 x.2.2) w (asV c.as y 0) us := by
        have := r1.ren ren
        rwa [hv] at this
      refine (hx w _ _ _ w us y hC2 hr2 hp).mono fun u w' hpost => ?_
      obtain ⟨F2, S2, rv, iB, kB⟩ := hpost
      -- what is written no more behind the call
      have hsub : ∀ g, S1 g → S2 g := fun g hg => kB.s g (.inl hg)
      have hno : ∀ g, S1 g → ¬ Tp F1 x.2.2 g := by
        rintro g hg ht
        obtain ⟨b', p', z', hb', hF', hz', hh', rfl⟩ := hrow ht
        exact (i2.out b' z' p' hz' hF' hh').1 hg
      have hfr : ∀ z ∈ c.memB (c.f y), ∀ p, BRep F2 S2 w' p z → BRep F2 (fun g => S2 g ∧ ¬ Tp F1 x.2.2 g) w' p z := by
        intro z hz p hb
        cases hfl : c.fl with
        | true => exact free_memB hfl z hz p hb
        | false =>
          have hT := t1 hfl
          exact BRep.keep (F := F2) (S := S2) ⟨fun _ _ h => h, fun g hg => ⟨hg, fun ⟨b, hb, _⟩ => by rw [hT] at hb; simp at hb⟩, fun _ _ => rfl⟩ (fun _ => rfl) hb
      have hfv : VRep F2 (fun g => S2 g ∧ ¬ Tp F1 x.2.2 g) w' (c.resB (c.f y)) u := by
        cases hfl : c.fl with
        | true =>
          have hfl' : c.rs.all Ak.flatR = true := by unfold XC.fl at hfl; rw [Bool.and_eq_true] at hfl; exact hfl.2
          exact tupl_flat rv (fun _ h => asV_flat hfl' h)
        | false =>
          have hT := t1 hfl
          exact rv.keep ⟨fun _ _ h => h, fun g hg => ⟨hg, fun ⟨b, hb, _⟩ => by rw [hT] at hb; simp at hb⟩, fun _ _ => rfl⟩
      have iB2 : Inv w (O1 w0 O F1 m2 (N ++ NN)) F2 (fun g => S2 g ∧ ¬ Tp F1 x.2.2 g) w' (c.memB (c.f y)) := by
        refine ⟨⟨iB.ext.os, iB.ext.tape, iB.ext.output, iB.ext.size, fun g hg ho => ?_⟩, iB.dom, fun b z p hz hp => hfr z (List.mem_of_getElem? hz) p (iB.blk b z p hz hp), iB.sep, fun b z p hz hp hh => ?_, fun g hg => iB.sb g hg.1, fun g hg hlt => ?_, iB.is⟩
        · by_cases ht : Tp F1 x.2.2 g
          · exact kB.h g (.inr ht)
          · exact iB.ext.block g hg (fun h => h.elim ho ht)
        · obtain ⟨h1, h2, h3⟩ := iB.out b z p hz hp hh
          refine ⟨fun h => h1 h.1, h2, h3.imp (fun h => h.elim id fun ht => (h1 (kB.s _ (.inr ht))).elim) id⟩
        · exact (iB.so g hg.1 hlt).elim id fun ht => (hg.2 ht).elim
      obtain ⟨iK, renK⟩ := iB2.rename (backL_nodup (N ++ NN) m2.length)
      have hbig : ∀ j, asN c.as + c.nn ≤ j → F2 j = none ∧ (c.memB (c.f y)).getD j .dead = .dead := by
        intro j hj
        have : (c.memB (c.f y)).length ≤ j := by rw [XC.memB_len]; exact hj
        exact ⟨iB2.dom j this, by rw [List.getD_eq_getElem?_getD, List.getElem?_eq_none this]; rfl⟩
      have hG : ∀ b p, ((backL (N ++ NN) m2.length)[b]?).bind F2 = some p → (if b ∈ N ++ NN then ((backL (N ++ NN) m2.length)[b]?).bind F2 else F1 b) = some p := by
        intro b p hb
        by_cases hbN : b ∈ N ++ NN
        · rw [if_pos hbN]; exact hb
        · exfalso
          by_cases hlt : b < m2.length
          · rw [backL_get _ _ _ hlt] at hb
            have hh : has b (N ++ NN) = false := by
              cases hh : has b (N ++ NN) with
              | false => rfl
              | true => exact (hbN (has_iff.1 hh)).elim
            rw [hh] at hb
            have hb : F2 ((N ++ NN).length + b) = some p := hb
            rw [(hbig _ (by omega)).1] at hb
            cases hb
          · rw [List.getElem?_eq_none (by rw [backL_len]; omega)] at hb
            cases hb
      have iG := iK.patch (G := fun b => if b ∈ N ++ NN then ((backL (N ++ NN) m2.length)[b]?).bind F2 else F1 b) hG (fun b hb => by
        have hb : (if b ∈ N ++ NN then ((backL (N ++ NN) m2.length)[b]?).bind F2 else F1 b) ≠ ((backL (N ++ NN) m2.length)[b]?).bind F2 := hb
        by_cases hbN : b ∈ N ++ NN
        · rw [if_pos hbN] at hb; exact (hb rfl).elim
        · by_cases hlt : b < m2.length
          · rw [List.getElem?_map, backL_get _ _ _ hlt]
            have hh : has b (N ++ NN) = false := by
              cases hh : has b (N ++ NN) with
              | false => rfl
              | true => exact (hbN (has_iff.1 hh)).elim
            rw [hh]
            simp only [cond_false, Option.map_some]
            rw [(hbig _ (by omega)).2]
            rfl
          · rw [if_neg hbN, i2.dom b (by omega), List.getElem?_eq_none (by rw [backL_len]; omega)] at hb
            exact (hb rfl).elim)
      have hkG : Keep F1 S1 w (fun b => if b ∈ N ++ NN then ((backL (N ++ NN) m2.length)[b]?).bind F2 else F1 b) (fun g => S2 g ∧ ¬ Tp F1 x.2.2 g) w' := by
        refine ⟨fun b p hb => ?_, fun g hg => ⟨hsub g hg, hno g hg⟩, fun g hg => kB.h g (.inl hg)⟩
        show (if b ∈ N ++ NN then ((backL (N ++ NN) m2.length)[b]?).bind F2 else F1 b) = some p
        by_cases hbN : b ∈ N ++ NN
        · rw [if_pos hbN, backL_get _ _ _ (hlt b hbN), has_iff.2 hbN]
          show F2 (idx b (N ++ NN)) = some p
          rcases List.mem_append.1 hbN with hb1 | hb1
          · have hi := idx_get hbN
            have hj := idx_get hb1
            have hjl := idx_lt hb1
            have : idx b (N ++ NN) = idx b N := by
              have hi2 : (N ++ NN)[idx b N]? = some b := by rw [List.getElem?_append_left hjl]; exact hj
              exact (List.getElem?_inj (by rw [List.length_append]; omega) hnd).1 (hi2.trans hi.symm) |>.symm
            rw [this]
            refine kB.f _ p ?_
            show (N[idx b N]?).bind F1 = some p
            rw [hj]; exact hb
          · rw [(hNN b hb1).2] at hb; cases hb
        · rw [if_neg hbN]; exact hb
      obtain ⟨gI, gK, _⟩ := i2.glue (N := N ++ NN) (W := N ++ NN) hlt (fun b hb => hb) iG hkG (fun b hb hn => (hn hb).elim)
      have hFF : (fun b => if b ∈ N ++ NN then (if b ∈ N ++ NN then ((backL (N ++ NN) m2.length)[b]?).bind F2 else F1 b) else F1 b) = fun b => if b ∈ N ++ NN then ((backL (N ++ NN) m2.length)[b]?).bind F2 else F1 b := by
        funext b
        by_cases hbN : b ∈ N ++ NN
        · rw [if_pos hbN]
        · rw [if_neg hbN, if_neg hbN]
      rw [hFF] at gI gK
      refine ⟨_, _, ?_, gI, ⟨fun b p hb => gK.f b p (k1.f b p hb), fun g hg => gK.s g (k1.s g hg), fun g hg => gK.h g (k1.s g hg)⟩⟩
      exact (hfv.ren renK).keep ⟨hG, fun _ h => h, fun _ _ => rfl⟩
theorem lookX_mem {g : FuncId} {c : XC} : ∀ {tb : List (FuncId × XC)}, c ∈ lookX tb g → (g, c) ∈ tb
  | [], h => by simp [lookX] at h
  | x :: l, h => by
    simp only [lookX] at h
    cases hb : Nat.beq x.1 g with
    | true =>
      rw [hb, cond_true] at h
      rcases List.mem_cons.1 h with rfl | h
      · rw [← Nat.eq_of_beq_eq_true hb]; exact List.mem_cons_self ..
      · exact List.mem_cons_of_mem _ (lookX_mem h)
    | false =>
      rw [hb, cond_false] at h
      exact List.mem_cons_of_mem _ (lookX_mem h)
theorem findL_some {L : At} {args : List V} {r : Bool × V × Mem} : ∀ {cs : List XC}, findL L m args cs = some r → ∃ c ∈ cs, c.find L m args = some r
  | [], h => by cases h
  | c :: cs, h => by
    simp only [findL] at h
    split at h
    · rename_i hc
      cases h
      exact ⟨c, List.mem_cons_self .., hc⟩
    · obtain ⟨c', h1, h2⟩ := findL_some h
      exact ⟨c', List.mem_cons_of_mem _ h1, h2⟩
def AllOk (P : Program) (tb : List (FuncId × XC)) : Prop := ∀ x ∈ tb, XOk P x.1 x.2
theorem allOk_nil : AllOk P [] := fun x h => by simp at h
theorem allOk_cons {g : FuncId} {c : XC} {tb : List (FuncId × XC)} (h : XOk P g c) (ht : AllOk P tb) : AllOk P ((g, c) :: tb) := by
  intro x hx
  rcases List.mem_cons.1 hx with rfl | hx
  · exact h
  · exact ht x hx
theorem gamX_ok {tb : List (FuncId × XC)} (h : AllOk P tb) : GamOk P (gamX tb) := by
  refine ⟨fun g L args m K => ?_, fun g L args m v m' w0 O F S w us hg hI hL ha => ?_⟩
  · unfold gamX
    split
    · exact chk_two _ _ _ _
    · rfl
  · unfold gamX at hg
    split at hg
    · rename_i r hr
      obtain ⟨hp, hg⟩ := chk_some hg
      cases hg
      obtain ⟨c, hc, hf⟩ := findL_some hr
      exact find_sound (h _ (lookX_mem hc)) hf hp hI hL ha
    · cases hg
end
end Go.Vi

/-
  Vi, part 28: arguments of a statement, opened: they stand for data.
-/
namespace Go.Vi
open Go Go.WideShapes Go.RowKit
/-- numbers in their kind's range, no length beyond an address -/
def fit : (t : Ty) → t.D → Bool
  | .int k, n => decide (k.min ≤ (show Int from n)) && decide ((show Int from n) ≤ k.max)
  | .bool, _ => true
  | .str, s => decide ((show List UInt8 from s).length ≤ 140737488351232)
  | .sl e, xs => decide ((show List e.D from xs).length ≤ 140737488351232) && (show List e.D from xs).all (fit e)
  | .unit, _ => true
  | .pair a b, x => fit a x.1 && fit b x.2
def tyFs (P : Program) (E : TypeId → Ty → Bool) : List Field → Nat → Ty → Bool
  | [], _, .unit => true
  | f :: fs, o, .pair a b => Nat.beq f.offset o && Nat.beq (P.cellsOf f.type) a.sz && E f.type a && tyFs P E fs (o + a.sz) b
  | _, _, _ => false
/-- a type's data are of this kind -/
def tyT (P : Program) : Nat → TypeId → Ty → Bool
  | 0, _, _ => false
  | n + 1, t, ty => match P.underlying t, ty with
    | some (.int k), .int k' => decide (k = k')
    | some .bool, .bool => true
    | some .string, .str => true
    | some (.slice e), .sl a => tyT P n e a && Nat.beq (P.cellsOf e) a.sz && Nat.blt 0 a.sz && Nat.blt 0 (P.bytesOf e)
    | some (.struct fields), ty => tyFs P (tyT P n) fields.toList 0 ty && Nat.beq (P.cellsOf t) ty.sz && ty.isAgg
    | _, _ => false
theorem choose_list {α : Type} {Q : Nat → α → Prop} : ∀ n : Nat, (∀ i, i < n → ∃ x, Q i x) → ∃ xs : List α, xs.length = n ∧ ∀ (i : Nat) x, xs[i]? = some x → Q i x
  | 0, _ => ⟨[], rfl, fun i x h => by simp at h⟩
  | n + 1, h => by
    obtain ⟨xs, hl, hx⟩ := choose_list n fun i hi => h i (by omega)
    obtain ⟨y, hy⟩ := h n (by omega)
    refine ⟨xs ++ [y], by simp [hl], fun i x hi => ?_⟩
    by_cases hlt : i < n
    · rw [List.getElem?_append_left (by omega)] at hi
      exact hx i x hi
    · rw [List.getElem?_append_right (by omega)] at hi
      have : i = n := by
        have := (List.getElem?_eq_some_iff.1 hi).1
        simp at this; omega
      subst this
      simp [hl] at hi
      subst hi
      exact hy
section
variable {H : Type} {enc : TypeId × Value → H} {P : Program} {W : World}
abbrev OldS (W : World) : Nat → Prop := fun g => g < W.heap.size
theorem cells?_get {a : Addr} : ∀ {n : Nat} {cs : List Value}, W.cells? 0 a n = some cs → cs.length = n ∧ ∀ (j : Nat) v, cs[j]? = some v → W.cell? (a.add j) = some v := by
  intro n cs h
  unfold World.cells? at h
  rw [if_pos (Nat.zero_le _)] at h
  refine ⟨by simpa using mapM_some_length h, fun j v hj => ?_⟩
  have hlt : j < n := by
    have h1 := (List.getElem?_eq_some_iff.1 hj).1
    have h2 : cs.length = n := by simpa using mapM_some_length h
    omega
  have := mapM_some_get h j j (by simp [List.getElem?_range hlt])
  rw [this, hj]
theorem weights_mem {P : Program} {e : TypeId} {ds : List (DataW H)} (h : (DataW.weightsAll P e ds).all (· ≤ reachBytes) = true) : ∀ d ∈ ds, (d.weights P e).all (· ≤ reachBytes) = true := by
  induction ds with
  | nil => intro d hd; simp at hd
  | cons x ds ih =>
    simp only [DataW.weightsAll, List.all_append, Bool.and_eq_true] at h
    intro d hd
    rcases List.mem_cons.1 hd with rfl | hd
    · exact h.1
    · exact ih h.2 d hd
/-- what is asked of a reading -/
def Opens (enc : TypeId × Value → H) (P : Program) (W : World) (t : TypeId) (ty : Ty) : Prop := ∀ (fuel : Nat) (cs : List Value) (d : DataW H) (ps : List MemPlace), DataW.trod enc P W 0 (fun _ => true) true fuel t cs = some (d, ps) →
  ∃ x : ty.D, RepD (OldS W) W ty x cs ∧ ((d.weights P t).all (· ≤ reachBytes) = true → fit ty x = true)
theorem open_fields {E : TypeId → Ty → Bool} (hE : ∀ t ty, E t ty = true → Opens enc P W t ty) (fuel : Nat) (cs : List Value) : ∀ (fs : List Field) (o : Nat) (ty : Ty) (xs : List (DataW H × List MemPlace)),
    tyFs P E fs o ty = true → xs.length = fs.length → (∀ (i : Nat) (f : Field), fs[i]? = some f → DataW.trod enc P W 0 (fun _ => true) true fuel f.type ((cs.drop f.offset).take (P.cellsOf f.type)) = xs[i]?) →
    ∃ x : ty.D, RepD (OldS W) W ty x ((cs.drop o).take ty.sz) ∧ ((DataW.weightsEach P (fs.map (·.type)) (xs.map (·.1))).all (· ≤ reachBytes) = true → fit ty x = true)
  | [], o, .unit, xs, h, hl, hx => ⟨(), by simp [RepD, Ty.sz], fun _ => rfl⟩
  | f :: fs, o, .pair a b, xs, h, hl, hx => by
    simp only [tyFs, Bool.and_eq_true] at h
    obtain ⟨⟨⟨h1, h2⟩, h3⟩, h4⟩ := h
    have h1 := Nat.eq_of_beq_eq_true h1
    have h2 := Nat.eq_of_beq_eq_true h2
    match xs, hl with
    | y :: xs, hl =>
      have h0 := hx 0 f rfl
      simp only [List.getElem?_cons_zero] at h0
      obtain ⟨x1, r1, w1⟩ := hE f.type a h3 fuel _ y.1 y.2 h0
      obtain ⟨x2, r2, w2⟩ := open_fields hE fuel cs fs (o + a.sz) b xs h4 (by simpa using hl) (fun i f' hf => by
        have := hx (i + 1) f' (by simpa using hf)
        simpa using this)
      rw [h1, h2] at r1
      refine ⟨(x1, x2), ?_, fun hw => ?_⟩
      · simp only [RepD]
        refine ⟨_, _, ?_, r1, r2⟩
        simp only [Ty.sz]
        rw [List.take_add, List.drop_drop]
      · simp only [List.map_cons, DataW.weightsEach, List.all_append, Bool.and_eq_true] at hw
        simp only [fit, Bool.and_eq_true]
        exact ⟨w1 hw.1, w2 hw.2⟩
  | [], _, .int _, _, h, _, _ => by cases h
  | [], _, .bool, _, h, _, _ => by cases h
  | [], _, .str, _, h, _, _ => by cases h
  | [], _, .sl _, _, h, _, _ => by cases h
  | [], _, .pair _ _, _, h, _, _ => by cases h
  | _ :: _, _, .int _, _, h, _, _ => by cases h
  | _ :: _, _, .bool, _, h, _, _ => by cases h
  | _ :: _, _, .str, _, h, _, _ => by cases h
  | _ :: _, _, .sl _, _, h, _, _ => by cases h
  | _ :: _, _, .unit, _, h, _, _ => by cases h
theorem open_ty : ∀ (n : Nat) (t : TypeId) (ty : Ty), tyT P n t ty = true → Opens enc P W t ty
  | 0, t, ty, h => by cases h
  | n + 1, t, ty, h => by
    intro fuel cs d ps hd
    simp only [tyT] at h
    split at h
    · rename_i k k' hu
      have hk : k = k' := by simpa using h
      subst hk
      obtain ⟨m, rfl, hx, hw⟩ := DataW.trod_int hu hd
      refine ⟨m, by simp [RepD], fun _ => ?_⟩
      simp only [Lit.wf, Bool.and_eq_true, decide_eq_true_eq] at hw
      simp [fit, hw]
    · rename_i hu
      obtain ⟨b, rfl, hx⟩ := DataW.trod_bool hu hd
      exact ⟨b, by simp [RepD], fun _ => rfl⟩
    · rename_i hu
      obtain ⟨s, rfl, hx, hw⟩ := DataW.trod_string hu hd
      refine ⟨s.data.toList, by simp [RepD], fun hw => ?_⟩
      cases hx
      simp only [DataW.weights, List.all_cons, List.all_nil, Bool.and_true, reachBytes] at hw
      simp only [fit]
      exact hw
    · rename_i e a hu
      simp only [Bool.and_eq_true] at h
      obtain ⟨⟨⟨h1, h2⟩, h3⟩, h4⟩ := h
      have h2 := Nat.eq_of_beq_eq_true h2
      have h3 : 0 < a.sz := by simpa [Nat.blt_eq] using h3
      have h4 : 0 < P.bytesOf e := by simpa [Nat.blt_eq] using h4
      have ih := open_ty n e a h1
      rcases DataW.trod_slice hu hd with ⟨rfl, hx⟩ | ⟨ad, len, cap, elems, rest, m, _, rfl, hx, _, hl, hm, hlen, hel, _, _⟩
      · refine ⟨([] : List a.D), ?_, fun _ => by simp [fit]⟩
        simp only [RepD]
        exact ⟨none, 0, rfl, Nat.le_refl _, by simp⟩
      · rw [h2] at hel
        have each : ∀ i, i < len → ∃ x : a.D, (∃ ec, RepD (OldS W) W a x ec ∧ ∀ (j : Nat) v, ec[j]? = some v → W.cell? ((ad.add (i * a.sz)).add j) = some v) ∧
            ∀ y, elems[i]? = some y → (y.1.weights P e).all (· ≤ reachBytes) = true → fit a x = true := by
          intro i hi
          have := hel i hi
          rw [List.getElem?_eq_getElem (by omega), Option.bind_eq_some_iff] at this
          obtain ⟨c1, hc1, hy⟩ := this
          obtain ⟨x, r, w⟩ := ih m c1 _ _ hy
          refine ⟨x, ⟨c1, r, (cells?_get hc1).2⟩, fun y hy' hw => ?_⟩
          rw [List.getElem?_eq_getElem (by omega)] at hy'
          cases hy'
          exact w hw
        obtain ⟨xs, hxl, hxs⟩ := choose_list len each
        have hadd : ∀ i, i < len → ∀ (j : Nat), j < a.sz → ad.spot = none ∧ ad.block < W.heap.size ∧ (ad.add (i * a.sz)).add j = ⟨ad.block, ad.off + i * a.sz + j, none⟩ := by
          have h00 : 0 < len → ad.spot = none ∧ ad.block < W.heap.size := by
            intro hpos
            obtain ⟨x0, ⟨ec, r0, hc0⟩, _⟩ := each 0 hpos
            have hlen0 := r0.len
            have := hc0 0 ec[0] (List.getElem?_eq_getElem (by omega))
            rw [Nat.zero_mul] at this
            simp only [Addr.add_zero'] at this
            unfold World.cell? at this
            split at this
            · rename_i hh
              refine ⟨?_, (Array.getElem?_eq_some_iff.1 hh).1⟩
              cases hs : ad.spot with
              | none => rfl
              | some _ => simp [hs] at this
            · cases this
          intro i hi j hj
          obtain ⟨q1, q2⟩ := h00 (by omega)
          refine ⟨q1, q2, ?_⟩
          obtain ⟨b, o, s⟩ := ad
          simp only at q1
          subst q1
          rw [Addr.add_lit, Addr.add_lit]
        refine ⟨xs, ?_, fun hw => ?_⟩
        · simp only [RepD]
          refine ⟨some ad, cap, by rw [hxl], by omega, ?_⟩
          by_cases h0 : len = 0
          · left
            exact List.length_eq_zero_iff.1 (by omega)
          · right
            obtain ⟨q1, q2, _⟩ := hadd 0 (by omega) 0 h3
            refine ⟨ad.block, ad.off, ?_, q2, fun i x hx => ?_⟩
            · obtain ⟨b, o, s⟩ := ad
              simp only at q1
              subst q1
              rfl
            · obtain ⟨ec, r, hc⟩ := (hxs i x hx).1
              refine ⟨ec, r, fun j v hj => ?_⟩
              have hi : i < len := by rw [← hxl]; exact (List.getElem?_eq_some_iff.1 hx).1
              have hjl : j < a.sz := by rw [← r.len]; exact (List.getElem?_eq_some_iff.1 hj).1
              rw [← (hadd i hi j hjl).2.2]
              exact hc j v hj
        · cases hx
          simp only [DataW.weights, hu, List.all_cons, List.all_append, Bool.and_eq_true, decide_eq_true_eq] at hw
          obtain ⟨g1, g2, g3⟩ := hw
          simp only [fit, Bool.and_eq_true, decide_eq_true_eq, List.all_eq_true]
          refine ⟨?_, fun x hx => ?_⟩
          · have e1 : (elems.map (·.1)).length = len := by simpa using hlen
            have : len * P.bytesOf e ≤ 140737488351232 := by
              have : ((elems.map (·.1)).length + (rest.map (·.1)).length) * P.bytesOf e ≤ reachBytes := g1
              rw [e1] at this
              exact Nat.le_trans (Nat.mul_le_mul_right _ (Nat.le_add_right _ _)) this
            rw [hxl]
            exact Nat.le_trans (Nat.le_mul_of_pos_right _ h4) this
          · obtain ⟨i, hi⟩ := List.getElem?_of_mem hx
            have hil : i < len := by rw [← hxl]; exact (List.getElem?_eq_some_iff.1 hi).1
            have hei : elems[i]? = some elems[i] := List.getElem?_eq_getElem (by omega)
            exact (hxs i x hi).2 _ hei (weights_mem g2 _ (List.mem_map.2 ⟨_, List.getElem_mem (by omega), rfl⟩))
    · rename_i fields hu
      simp only [Bool.and_eq_true] at h
      obtain ⟨⟨h1, h2⟩, h3⟩ := h
      have h2 := Nat.eq_of_beq_eq_true h2
      obtain ⟨xs, m, _, hx, hcl, hxl, hel⟩ := DataW.trod_struct hu hd
      obtain ⟨x, r, w⟩ := open_fields (fun t ty h => open_ty n t ty h) m cs fields.toList 0 _ xs h1 (by simpa using hxl) (fun i f hf => hel i f (by simpa using hf))
      refine ⟨x, ?_, fun hw => ?_⟩
      · rw [List.drop_zero, List.take_of_length_le (by omega)] at r
        exact r
      · cases hx
        simp only [DataW.weights, hu] at hw
        exact w hw
    · cases h
/-- an argument stands for a datum -/
theorem open_any {t : TypeId} {ty : Ty} {v : Value} {d : DataW H} {ps : List MemPlace} (n : Nat) (ht : tyT P n t ty = true) (hval : Value.okWide P W .any 0 t v) (hd : DataW.Trod enc P W 0 (fun _ => true) true t v d ps) :
    ∃ x : ty.D, (∀ F, VRep F (OldS W) W (.d ty x) v) ∧ ((d.weights P t).all (· ≤ reachBytes) = true → fit ty x = true) := by
  obtain ⟨fuel, hf⟩ := hd
  obtain ⟨x, r, w⟩ := open_ty n t ty ht fuel _ d ps hf
  refine ⟨x, fun F => ?_, w⟩
  have hv : v = valOf ty v.cells.toList := by
    cases n with
    | zero => cases ht
    | succ n =>
      simp only [tyT] at ht
      split at ht
      · rename_i hu
        obtain ⟨m, rfl⟩ := okWide_int hu hval
        rfl
      · rename_i hu
        obtain ⟨m, rfl⟩ := okWide_bool hu hval
        rfl
      · rename_i hu
        obtain ⟨m, rfl⟩ := okWide_string hu hval
        rfl
      · rename_i hu
        obtain ⟨_, _, _, rfl⟩ := okWide_slice hu hval
        rfl
      · rename_i fields hu
        simp only [Bool.and_eq_true] at ht
        obtain ⟨cs, rfl, _⟩ := okWide_struct hu hval
        unfold valOf
        rw [if_pos ht.2]
        simp [Value.cells]
      · cases ht
  rw [hv]
  exact .d r
end
/-! ## a whole call -/
theorem XOk.calls {P : Program} {g : FuncId} {c : XC} (h : XOk P g c) (hb : ∀ a ∈ c.as, ∃ t, a = Ak.dat t) {W : World} {us : List Value} {x : AsD c.as} (hv : ∀ F, VReps F (OldS W) W (asV c.as x 0) us) (hp : c.pre x = true) {b : Bool} (hres : c.resB (c.f x) = .d .bool b)
    (hrun : (callFunc g us.toArray).run P W = .ok (.enter g us.toArray) W) :
    Calls P g us.toArray W fun e W' => e = .returned (.bool b) ∧ Below W.heap.size W W' := by
  have hm : ∀ (as : List Ak) (x : AsD as) (k : Nat), (∀ a ∈ as, ∃ t, a = Ak.dat t) → asM as x k = [] := by
    intro as
    induction as with
    | nil => intro x k _; rfl
    | cons a as ih =>
      intro x k ha
      obtain ⟨t, rfl⟩ := ha a (List.mem_cons_self ..)
      simp only [asM, Ak.blks, List.nil_append]
      exact ih _ _ fun a h => ha a (List.mem_cons_of_mem _ h)
  have hI : Inv W (OldS W) (fun _ => none) (OldS W) W (asM c.as x 0) := by
    rw [hm c.as x 0 hb]
    exact ⟨⟨rfl, rfl, rfl, Nat.le_refl _, fun _ _ _ => rfl⟩, fun _ _ => rfl, fun b x p h => by simp at h, fun b b' x x' p p' h => by simp at h, fun b x p h => by simp at h, fun _ h => h, fun _ h _ => h, fun b x h => by simp at h⟩
  rcases h W (OldS W) (fun _ => none) (OldS W) W us x hI (hv _) hp with ⟨_, hc⟩ | ⟨u, w', hc, _⟩
  · refine hc.mono fun e W' he => ?_
    cases e with
    | returned u =>
      obtain ⟨F', S', rv, i, k⟩ := he
      rw [hres] at rv
      refine ⟨by rw [rv.bool_inv], i.ext.os, i.ext.tape, i.ext.output, i.ext.size, fun g hg => k.h g hg⟩
    | panicked c => exact he.elim
    | outgrown => exact he.elim
  · rw [hrun] at hc
    cases hc
end Go.Vi
