/- Vi, part C: our own text, the same for every seat: a verified evaluator of the code over typed data. -/
import Derived.Test.YtopiinnggjcbnaaViB
/-
  Vi, part 16: renaming; what no name leads to goes; plain regions.
-/
namespace Go.Vi
open Go
section
variable {F F' : Nat → Option Pl} {S : Nat → Prop} {w w0 : World} {O : Nat → Prop} {m : Mem} {f : Nat → Option Nat}
theorem rens_eq (f : Nat → Option Nat) : ∀ vs : List V, V.rens f vs = vs.map (V.ren f)
  | [] => rfl
  | v :: vs => by simp only [V.rens, List.map_cons, rens_eq f vs]
/-- the places under the new names -/
def Renames (F F' : Nat → Option Pl) (f : Nat → Option Nat) : Prop := ∀ b b' p, f b = some b' → F b = some p → F' b' = some p
theorem VRep.ren (hf : Renames F F' f) {v : V} {u : Value} (h : VRep F S w v u) : VRep F' S w (v.ren f) u := by
  induction h with
  | d h => exact .d h
  | agg hl _ h1 ih =>
    simp only [V.ren, rens_eq]
    refine .agg (by simpa using hl) (fun i v u hv hu => ?_) h1
    rw [List.getElem?_map, Option.map_eq_some_iff] at hv
    obtain ⟨x, hx, rfl⟩ := hv
    exact ih i x u hx hu
  | nil => exact .nil
  | ref h =>
    simp only [V.ren]
    split
    · rename_i hb; exact .ref (hf _ _ _ hb h)
    · exact .junk
  | own h h0 ha =>
    simp only [V.ren]
    split
    · rename_i hb; exact .own (hf _ _ _ hb h) h0 ha
    · exact .junk
  | ea h h0 h1 => exact .ea h h0 h1
  | eo h h0 h1 =>
    simp only [V.ren]
    split
    · rename_i hb; exact .eo (hf _ _ _ hb h) h0 h1
    · exact .junk
  | fn ha hc _ _ i1 i2 =>
    simp only [V.ren, rens_eq]
    refine .fn (by simpa using ha) (by simpa using hc) (fun i v u hv hu => ?_) (fun i v u hv hu => ?_)
    · rw [List.getElem?_map, Option.map_eq_some_iff] at hv
      obtain ⟨x, hx, rfl⟩ := hv
      exact i1 i x u hx hu
    · rw [List.getElem?_map, Option.map_eq_some_iff] at hv
      obtain ⟨x, hx, rfl⟩ := hv
      exact i2 i x u hx hu
  | tup hl _ ih =>
    simp only [V.ren, rens_eq]
    refine .tup (by simpa using hl) (fun i v u hv hu => ?_)
    rw [List.getElem?_map, Option.map_eq_some_iff] at hv
    obtain ⟨x, hx, rfl⟩ := hv
    exact ih i x u hx hu
  | junk => exact .junk
theorem VReps.ren (hf : Renames F F' f) {vs : List V} {us : List Value} (h : VReps F S w vs us) : VReps F' S w (V.rens f vs) us := by
  rw [rens_eq]
  refine ⟨by simpa using h.len, fun i v u hv hu => ?_⟩
  rw [List.getElem?_map, Option.map_eq_some_iff] at hv
  obtain ⟨x, hx, rfl⟩ := hv
  exact (h.at_ i x u hx hu).ren hf
theorem BRep.ren (hf : Renames F F' f) {p : Pl} {x : Blk} (h : BRep F S w p x) : BRep F' S w p (x.ren f) := by
  cases x with
  | cells cs =>
    obtain ⟨h0, arr, T, hh, hr, h1⟩ := h
    exact ⟨h0, arr, T, hh, hr.ren hf, h1⟩
  | row e xs a => exact h
  | frz e xs => exact h
  | dead => trivial
theorem hot_ren {p : Pl} {x : Blk} : (x.ren f).hot p ↔ x.hot p := by cases x <;> exact Iff.rfl
theorem dead_ren {x : Blk} (h : x.ren f ≠ .dead) : x ≠ .dead := fun e => h (by rw [e]; rfl)
theorem has_iff {b : Nat} : ∀ {l : List Nat}, has b l = true ↔ b ∈ l
  | [] => by simp [has]
  | c :: l => by simp [has, has_iff (l := l)]
theorem idx_get {b : Nat} : ∀ {l : List Nat}, b ∈ l → l[idx b l]? = some b
  | [], h => by simp at h
  | c :: l, h => by
    simp only [idx]
    by_cases hbc : b = c
    · subst hbc; simp
    · have h1 : Nat.beq b c = false := by
        cases h : Nat.beq b c with
        | false => rfl
        | true => exact (hbc (Nat.eq_of_beq_eq_true h)).elim
      rw [h1]
      have h2 : b ∈ l := by simpa [hbc] using h
      simpa using idx_get h2
/-- the memory under new names -/
theorem Inv.rename {keep : List Nat} (hI : Inv w0 O F S w m) (hk : keep.Nodup) :
    Inv w0 O (fun c => (keep[c]?).bind F) S w (keep.map fun b => (m.getD b .dead).ren (keepF keep)) ∧ Renames F (fun c => (keep[c]?).bind F) (keepF keep) := by
  have hf : Renames F (fun c => (keep[c]?).bind F) (keepF keep) := by
    intro b b' p hb hF
    unfold keepF at hb
    cases hh : has b keep with
    | false => simp [hh] at hb
    | true =>
      simp only [hh, cond_true, Option.some.injEq] at hb
      subst hb
      have := idx_get (has_iff.1 hh)
      show (keep[idx b keep]?).bind F = some p
      rw [this]
      exact hF
  have hin : ∀ {c : Nat} {x : Blk} {p : Pl}, (keep.map fun b => (m.getD b .dead).ren (keepF keep))[c]? = some x → (keep[c]?).bind F = some p → ∃ b y, keep[c]? = some b ∧ F b = some p ∧ m[b]? = some y ∧ x = y.ren (keepF keep) := by
    intro c x p hx hp
    rw [List.getElem?_map, Option.map_eq_some_iff] at hx
    obtain ⟨b, hb, rfl⟩ := hx
    rw [hb] at hp
    have hp : F b = some p := hp
    have hlt : b < m.length := by
      rcases Nat.lt_or_ge b m.length with h | h
      · exact h
      · rw [hI.dom b h] at hp; cases hp
    exact ⟨b, m[b], hb, hp, List.getElem?_eq_getElem hlt, by rw [List.getD_eq_getElem?_getD, List.getElem?_eq_getElem hlt]; rfl⟩
  refine ⟨⟨hI.ext, fun c hc => ?_, fun c x p hx hp => ?_, fun c c' x x' p p' hx hx' hp hp' h1 h2 hne => ?_, fun c x p hx hp h1 => ?_, hI.sb, hI.so, fun c x hx hne => ?_⟩, hf⟩
  · have : keep[c]? = none := List.getElem?_eq_none (by simpa using hc)
    rw [this]; rfl
  · obtain ⟨b, y, hb, hF, hm, rfl⟩ := hin hx hp
    exact (hI.blk b y p hm hF).ren hf
  · obtain ⟨b, y, hb, hF, hm, rfl⟩ := hin hx hp
    obtain ⟨b', y', hb', hF', hm', rfl⟩ := hin hx' hp'
    refine hI.sep b b' y y' p p' hm hm' hF hF' (hot_ren.1 h1) (hot_ren.1 h2) (fun e => hne ?_)
    subst e
    obtain ⟨hc, _⟩ := List.getElem?_eq_some_iff.1 hb
    exact (List.getElem?_inj hc hk).1 (hb.trans hb'.symm)
  · obtain ⟨b, y, hb, hF, hm, rfl⟩ := hin hx hp
    exact hI.out b y p hm hF (hot_ren.1 h1)
  · rw [List.getElem?_map, Option.map_eq_some_iff] at hx
    obtain ⟨b, hb, rfl⟩ := hx
    rw [hb]
    show F b ≠ none
    have hd := dead_ren hne
    cases hm : m[b]? with
    | none => simp [List.getD_eq_getElem?_getD, hm] at hd
    | some y => exact hI.is b y hm (by simpa [List.getD_eq_getElem?_getD, hm] using hd)
/-- a state: slots and blocks stand for an activation and a world; FB, SB, wB: what was at the start -/
def St (w0 : World) (O : Nat → Prop) (FB : Nat → Option Pl) (SB : Nat → Prop) (wB : World) (s : List V) (m : Mem) (a : Act) (w : World) : Prop :=
  a.defers = [] ∧ ∃ F S, SR F S w s a ∧ Inv w0 O F S w m ∧ Keep FB SB wB F S w
variable {FB : Nat → Option Pl} {SB : Nat → Prop} {wB : World} {q : Nat}
theorem gcK_sound {keep : List Nat} (hk : keep.Nodup) (hq : ∀ b, b < q → keep[b]? = some b) (hFB : ∀ b, q ≤ b → FB b = none) {s : List V} {a : Act} {K : List V → Mem → Option R0} {r : R0} (hs : St w0 O FB SB wB s m a w) (h : gcK keep s m K = some r) :
    ∃ s' m', St w0 O FB SB wB s' m' a w ∧ K s' m' = some r := by
  obtain ⟨hd, F, S, hr, hI, hkp⟩ := hs
  obtain ⟨hI', hf⟩ := hI.rename hk
  refine ⟨_, _, ⟨hd, _, S, hr.ren hf, hI', ⟨fun b p hb => ?_, hkp.s, hkp.h⟩⟩, h⟩
  have hlt : b < q := by
    rcases Nat.lt_or_ge b q with h | h
    · exact h
    · rw [hFB b h] at hb; cases hb
  show (keep[b]?).bind F = some p
  rw [hq b hlt]
  exact hkp.f b p hb
theorem gc_sound (hFB : ∀ b, q ≤ b → FB b = none) {s : List V} {a : Act} {K : List V → Mem → Option R0} {r : R0} (hs : St w0 O FB SB wB s m a w) (h : gc q s m K = some r) :
    ∃ s' m', St w0 O FB SB wB s' m' a w ∧ K s' m' = some r := by
  refine gcK_sound (q := q) ?_ (fun b hb => ?_) hFB hs h
  · rw [List.nodup_append]
    refine ⟨List.nodup_range, List.nodup_range.filter _, fun a ha b hb => ?_⟩
    simp only [List.mem_range, List.mem_filter, Bool.and_eq_true, Nat.ble_eq] at ha hb
    omega
  · rw [List.getElem?_append_left (by simpa using hb), List.getElem?_range hb]
theorem clr_sound {a : Act} : ∀ (J : List Nat) {s : List V}, SR F S w s a → SR F S w (clr J s) a
  | [], _, h => h
  | j :: J, s, h => by
    refine clr_sound J (s := s.set j .junk) ⟨by simpa using h.len, fun i v u hv hu => ?_⟩
    rw [List.getElem?_set] at hv
    split at hv
    · split at hv
      · cases hv; exact .junk
      · cases hv
    · exact h.at_ i v u hv hu
/-! ## regions in their own order -/
variable {P : Program} {τ : Tau} {Γ : Gam R0}
theorem isTrue_some {v : V} {b : Bool} (h : isTrue v = some b) : v = .d .bool b := by
  unfold isTrue at h
  split at h
  · cases h; rfl
  · cases h
theorem set_same {s : List V} {d : Nat} {b : Bool} (h : isTrue (s.getD d .junk) = some b) : s.set d (.d .bool b) = s := by
  have h1 := isTrue_some h
  rw [List.getD_eq_getElem?_getD] at h1
  apply List.ext_getElem?
  intro i
  rw [List.getElem?_set]
  split
  · rename_i hdi
    subst hdi
    cases hs : s[d]? with
    | none => rw [hs] at h1; cases h1
    | some v =>
      rw [hs] at h1
      have hlt := (List.getElem?_eq_some_iff.1 hs).1
      have : v = .d .bool b := h1
      rw [if_pos hlt, this]
  · rfl
theorem guard_slot {s : List V} {a : Act} (hs : SR F S w s a) {d : Nat} {b : Bool} (h : isTrue (s.getD d .junk) = some b) : a.tmps[d]? = some (.bool b) := by
  have h1 := isTrue_some h
  have h2 := hs.slot d
  rw [h1] at h2
  have h3 := h2.bool_inv
  cases ht : a.tmps[d]? with
  | none => simp [ht, undef] at h3
  | some u => simp [ht] at h3; rw [h3]
theorem put_defers {a : Act} (h : a.defers = []) (d : Option Tmp) (u : Value) : (a.put d u).defers = [] := by cases d <;> exact h
theorem St.put {s : List V} {m' : Mem} {a : Act} {w' : World} {F' : Nat → Option Pl} {S' : Nat → Prop} (hd : a.defers = []) (hs : SR F S w s a) (hkp : Keep FB SB wB F S w) {v : V} {u : Value} (hv : VRep F' S' w' v u) (hI : Inv w0 O F' S' w' m') (hk : Keep F S w F' S' w') (d : Option Tmp) : St w0 O FB SB wB (Vi.put s d v) m' (a.put d u) w' :=
  ⟨put_defers hd d u, F', S', SR.put (VReps.keep hk hs) hv d, hI, hkp.trans hk⟩
theorem regionE_sound (hτ : TOK P τ) (hΓ : GamOk P Γ) {ops : Array Oper} {Q : Exit → Act → World → Prop} {K : List V → Mem → Option R0} {r : R0} (hQ : ∀ s m a w, St w0 O FB SB wB s m a w → K s m = some r → Q .normal a w) :
    ∀ (rest : List Oper) (k : Nat), (∀ j, rest[j]? = ops[k + j]?) → ∀ {s : List V} {m : Mem} {a : Act} {w : World}, St w0 O FB SB wB s m a w → regionE τ Γ ops rest s m K = some r → wpOps P ops Q (List.range' k rest.length) a w
  | [], k, _, s, m, a, w, hs, h => hQ s m a w hs h
  | o :: rest, k, ho, s, m, a, w, hs, h => by
    have hk : ops[k]? = some o := by have := ho 0; simpa using this.symm
    have hrest : ∀ j, rest[j]? = ops[(k + 1) + j]? := fun j => by
      have := ho (j + 1)
      rw [show k + 1 + j = k + (j + 1) by omega, ← this]
      rfl
    have step : ∀ {s' : List V}, s' = s → opV τ Γ none s' m o.op (fun v m' => regionE τ Γ ops rest (put s' o.dst v) m' K) = some r → o.wp P a w (wpOps P ops Q (List.range' (k + 1) rest.length)) Q := by
      rintro s' rfl h
      obtain ⟨hd, F, S, hr, hI, hkp⟩ := hs
      refine opV_sound hτ hΓ hI (fun l hl => by cases hl) hr h ?_
      intro v u m' F' S' w' hv hi hkk hK
      exact regionE_sound hτ hΓ hQ rest (k + 1) hrest (St.put hd hr hkp hv hi hkk o.dst) hK
    have skip : ∀ {s' : List V}, s' = s → regionE τ Γ ops rest (put s' o.dst .junk) m K = some r → wpOps P ops Q (List.range' (k + 1) rest.length) (a.put o.dst undef) w := by
      rintro s' rfl h
      obtain ⟨hd, F, S, hr, hI, hkp⟩ := hs
      exact regionE_sound hτ hΓ hQ rest (k + 1) hrest (St.put hd hr hkp .junk hI (.refl _ _ _) o.dst) h
    simp only [List.length_cons, List.range'_succ, wpOps, hk]
    simp only [regionE] at h
    split at h
    · rename_i hg
      have hw : Region.wanted o (yielded ops a.tmps) = true := by simp [Region.wanted, hg]
      rw [if_pos hw]
      exact .inl (step rfl h)
    · rename_i j want hg
      split at h
      · rename_i d hd
        split at h
        · rename_i b hb
          have hslot : yielded ops a.tmps j = some b := by
            obtain ⟨_, F, S, hr, _, _⟩ := hs
            have := guard_slot hr hb
            simp [yielded, hd, this]
          have hw : Region.wanted o (yielded ops a.tmps) = (b == want) := by simp [Region.wanted, hg, hslot]
          have hset := set_same hb
          rw [hw]
          cases b <;> cases want <;> simp only [cond_true, cond_false] at h
          · rw [if_pos (by rfl)]; exact .inl (step hset h)
          · rw [if_neg (by decide)]; exact skip hset h
          · rw [if_neg (by decide)]; exact skip hset h
          · rw [if_pos (by rfl)]; exact .inl (step hset h)
        · cases h
      · cases h
end
end Go.Vi

/-
  Vi, part 17: what an operation comes to does not depend on what follows.
-/
namespace Go.Vi
open Go
section
variable {R : Type} {τ : Tau} {m : Mem} {L : At}
theorem chk_nat {A : Type} {b : Bool} {x : Option A} {K : A → Option R} : chk b (x.bind K) = (chk b x).bind K := by cases b <;> rfl
theorem chk_one {A : Type} (b : Bool) (v : A) (K : A → Option R) : chk b (K v) = (chk b (some v)).bind K := by cases b <;> rfl
theorem chk_two (b : Bool) (v : V) (m' : Mem) (K : V → Mem → Option R) : chk b (K v m') = (chk b (K0 v m')).bind (pr K) := by cases b <;> rfl
theorem ite_one {A : Type} {c : Prop} [Decidable c] {x : Option A} {y : Option R} {K : A → Option R} (h : y = x.bind K) : (if c then y else none) = (if c then x else none).bind K := by
  by_cases hc : c
  · rw [if_pos hc, if_pos hc]; exact h
  · rw [if_neg hc, if_neg hc]; rfl
theorem binV_nat (g : Option Ty) (op : BinOp) (x y : V) (K : V → Option R) : binV g op x y K = (binV g op x y some).bind K := by
  unfold binV
  split
  · cases op <;> dsimp only <;> first
      | exact chk_one _ _ _
      | exact ite_one rfl
      | exact ite_one (chk_one _ _ _)
      | (refine ite_one ?_; split <;> rfl)
  · cases op <;> dsimp only <;> first
      | exact chk_one _ _ _
      | (split <;> rfl)
  · split <;> rfl
  · split
    · split <;> rfl
    · rfl
theorem unV_nat (op : UnOp) (x : V) (K : V → Option R) : unV op x K = (unV op x some).bind K := by
  unfold unV
  split <;> rfl
theorem indexAddrV_nat (z : Nat) (x i : V) (K : V → Option R) : indexAddrV z m x i K = (indexAddrV z m x i some).bind K := by
  unfold indexAddrV
  repeat' (first | rfl | exact chk_one _ _ _ | refine ite_one ?_ | split)
theorem indexV_nat (t : TI) (x i : V) (K : V → Option R) : indexV t x i K = (indexV t x i some).bind K := by
  unfold indexV
  repeat' (first | rfl | exact chk_one _ _ _ | split)
theorem loadC_nat (t : TI) (cs : List V) (off : Nat) (K : V → Option R) : loadC t cs off K = (loadC t cs off some).bind K := by
  unfold loadC
  repeat' (first | rfl | split)
theorem loadV_nat (t : TI) (p : V) (K : V → Option R) : loadV m t p K = (loadV m t p some).bind K := by
  unfold loadV
  repeat' (first | rfl | exact loadC_nat _ _ _ _ | split)
theorem storeV_nat (t : TI) (p x : V) (K : Mem → Option R) : storeV m t p x K = (storeV m t p x some).bind K := by
  unfold storeV
  repeat' (first | rfl | split)
theorem fieldAddrV_nat (t : TI) (p : V) (f : Nat) (K : V → Option R) : fieldAddrV t p f K = (fieldAddrV t p f some).bind K := by
  unfold fieldAddrV
  repeat' (first | rfl | split)
theorem fieldV_nat (t : TI) (x : V) (f : Nat) (K : V → Option R) : fieldV τ t x f K = (fieldV τ t x f some).bind K := by
  unfold fieldV
  repeat' (first | rfl | exact loadC_nat _ _ _ _ | split)
theorem bound_nat {A : Type} (x : Option V) (z : Int) (K : Int → Option A) (K' : A → Option R) : bound x z (fun n => (K n).bind K') = (bound x z K).bind K' := by
  unfold bound
  repeat' (first | rfl | split)
theorem sliceV_nat (t : TypeId) (x : V) (lo hi : Option V) (K : V → Mem → Option R) : sliceV τ L m t x lo hi K = (sliceV τ L m t x lo hi K0).bind (pr K) := by
  unfold sliceV bound
  repeat' (first | rfl | exact chk_two _ _ _ _ | refine ite_one ?_ | split)
theorem convV_nat (src dst : TypeId) (x : V) (K : V → Mem → Option R) : convV τ L m src dst x K = (convV τ L m src dst x K0).bind (pr K) := by
  unfold convV
  repeat' (first | rfl | split)
theorem appendV_nat (t t' : TypeId) (x y : V) (K : V → Mem → Option R) : appendV τ L m t t' x y K = (appendV τ L m t t' x y K0).bind (pr K) := by
  unfold appendV
  repeat' (first | rfl | exact chk_two _ _ _ _ | refine ite_one ?_ | split)
theorem makeV_nat (t : TypeId) (x y : V) (K : V → Mem → Option R) : makeV τ L m t x y K = (makeV τ L m t x y K0).bind (pr K) := by
  unfold makeV
  repeat' (first | rfl | exact chk_two _ _ _ _ | refine ite_one ?_ | split)
theorem buildV_nat (t : TypeId) (ps : List (Nat × V)) (K : V → Option R) : buildV τ t ps K = (buildV τ t ps some).bind K := by
  unfold buildV
  repeat' (first | rfl | split)
theorem buildSliceV_nat (t : TypeId) (n : Nat) (ps : List (Nat × V)) (K : V → Mem → Option R) : buildSliceV τ L m t n ps K = (buildSliceV τ L m t n ps K0).bind (pr K) := by
  unfold buildSliceV
  repeat' (first | rfl | split)
end
theorem lift1 {f : (V → Option R0) → Option R0} {g : Option V} {m : Mem} (h : ∀ K, f K = g.bind K) (K : V → Mem → Option R0) : f (fun v => K v m) = (f (fun v => K0 v m)).bind (pr K) := by
  rw [h, h]
  cases g <;> rfl
theorem callV_nat {P : Program} {Γ : Gam R0} {τ : Tau} {L : At} {s : List V} {m : Mem} (hΓ : GamOk P Γ) (c : Call) (K : V → Mem → Option R0) : callV τ Γ L s m c K = (callV τ Γ L s m c K0).bind (pr K) := by
  unfold callV
  split
  · repeat' (first | rfl | split)
  · repeat' (first | rfl | split)
  · repeat' (first | rfl | split)
  · split
    · exact appendV_nat _ _ _ _ _
    · rfl
  · split
    · exact hΓ.nat _ _ _ _ _
    · rfl
  · rfl
theorem opV_nat {P : Program} {Γ : Gam R0} {τ : Tau} {L : At} {s : List V} {m : Mem} (hΓ : GamOk P Γ) (o : Op) (K : V → Mem → Option R0) : opV τ Γ L s m o K = (opV τ Γ L s m o K0).bind (pr K) := by
  unfold opV
  split
  · rfl
  · rfl
  · split
    · rename_i c _; cases c <;> rfl
    · rfl
  · exact lift1 (fun K => binV_nat _ _ _ _ K) K
  · exact lift1 (fun K => unV_nat _ _ K) K
  · exact lift1 (fun K => indexAddrV_nat _ _ _ K) K
  · exact lift1 (fun K => indexV_nat _ _ _ K) K
  · exact lift1 (fun K => fieldAddrV_nat _ _ _ K) K
  · exact lift1 (fun K => fieldV_nat _ _ _ K) K
  · exact lift1 (fun K => loadV_nat _ _ K) K
  · rw [storeV_nat (K := fun m => K .junk m), storeV_nat (K := fun m => K0 .junk m)]
    generalize storeV _ _ _ _ some = x
    cases x <;> rfl
  · exact sliceV_nat _ _ _ _ _
  · exact convV_nat _ _ _ _
  · split <;> rfl
  · split <;> rfl
  · exact lift1 (fun K => buildV_nat _ _ K) K
  · exact buildSliceV_nat _ _ _ _
  · exact makeV_nat _ _ _ _
  · rfl
  · repeat' (first | rfl | split)
  · repeat' (first | rfl | split)
  · exact callV_nat hΓ _ _
  · rfl
end Go.Vi

/-
  Vi, part 18: an operation and its footprint.
-/
namespace Go.Vi
open Go
section
variable {F F' F'' : Nat → Option Pl} {S S' : Nat → Prop} {w w' w0 : World} {O : Nat → Prop} {m m' : Mem}
theorem restrM_get (N : List Nat) : ∀ (m : Mem) (i b : Nat), (restrM N i m)[b]? = (m[b]?).map fun x => bif has (i + b) N then x else .dead
  | [], i, b => by simp [restrM]
  | x :: m, i, 0 => by simp [restrM]
  | x :: m, i, b + 1 => by
    have := restrM_get N m (i + 1) b
    simp only [restrM, List.getElem?_cons_succ, this]
    rw [show i + 1 + b = i + (b + 1) by omega]
theorem mergeM_get (W N : List Nat) (m' : Mem) : ∀ (m : Mem) (i b : Nat), (mergeM W N m' i m)[b]? = (m[b]?).map fun x => bif has (i + b) W then (m'.getD (i + b) .dead).ren (nameF N) else x
  | [], i, b => by simp [mergeM]
  | x :: m, i, 0 => by simp [mergeM]
  | x :: m, i, b + 1 => by
    have := mergeM_get W N m' m (i + 1) b
    simp only [mergeM, List.getElem?_cons_succ, this]
    rw [show i + 1 + b = i + (b + 1) by omega]
theorem restrS_get (l : List Tmp) : ∀ (s : List V) (i t : Nat), (restrS l i s)[t]? = (s[t]?).map fun x => bif has (i + t) l then x else .junk
  | [], i, b => by simp [restrS]
  | x :: m, i, 0 => by simp [restrS]
  | x :: m, i, b + 1 => by
    have := restrS_get l m (i + 1) b
    simp only [restrS, List.getElem?_cons_succ, this]
    rw [show i + 1 + b = i + (b + 1) by omega]
theorem restrM_len (N : List Nat) (m : Mem) (i : Nat) : (restrM N i m).length = m.length := by
  induction m generalizing i with
  | nil => rfl
  | cons x m ih => simp [restrM, ih]
theorem mergeM_len (W N : List Nat) (m' m : Mem) (i : Nat) : (mergeM W N m' i m).length = m.length := by
  induction m generalizing i with
  | nil => rfl
  | cons x m ih => simp [mergeM, ih]
theorem SR.restr {s : List V} {a : Act} (h : SR F S w s a) (l : List Tmp) : SR F S w (restrS l 0 s) a := by
  refine ⟨?_, fun i v u hv hu => ?_⟩
  · have : ∀ (s : List V) (i : Nat), (restrS l i s).length = s.length := by
      intro s
      induction s with
      | nil => intro i; rfl
      | cons x s ih => intro i; simp [restrS, ih]
    rw [this]; exact h.len
  · rw [restrS_get, Option.map_eq_some_iff] at hv
    obtain ⟨x, hx, rfl⟩ := hv
    cases has (0 + i) l with
    | true => exact h.at_ i x u hx hu
    | false => exact .junk
theorem VRep.both {w1 : World} {v : V} {u : Value} (h : VRep F' S' w' v u) (hF : ∀ b p p', F b = some p → F' b = some p' → F'' b = some p') : ∀ {u0 : Value}, VRep F S w1 v u0 → VRep F'' S' w' v u := by
  induction h with
  | d h => exact fun _ => .d h
  | agg hl _ h1 ih =>
    intro u0 h0
    obtain ⟨us, _, hr, _⟩ := h0.agg_inv
    refine .agg hl (fun i v u hv hu => ?_) h1
    obtain ⟨u1, _, hr1⟩ := hr.get hv
    exact ih i v u hv hu hr1
  | nil => exact fun _ => .nil
  | ref h =>
    intro u0 h0
    obtain ⟨p, hp, _⟩ := h0.ref_inv
    exact .ref (hF _ _ _ hp h)
  | own h g0 ha =>
    intro u0 h0
    obtain ⟨p, _, _, hp, _⟩ := h0.own_inv
    exact .own (hF _ _ _ hp h) g0 ha
  | ea h h0 h1 => exact fun _ => .ea h h0 h1
  | eo h g0 g1 =>
    intro u0 h0
    obtain ⟨p, hp, _⟩ := h0.eo_inv
    exact .eo (hF _ _ _ hp h) g0 g1
  | fn ha hc _ _ i1 i2 =>
    intro u0 h0
    obtain ⟨a', c', _, r1, r2⟩ := h0.fn_inv
    refine .fn ha hc (fun i v u hv hu => ?_) (fun i v u hv hu => ?_)
    · obtain ⟨u1, _, hr1⟩ := r1.get hv
      exact i1 i v u hv hu hr1
    · obtain ⟨u1, _, hr1⟩ := r2.get hv
      exact i2 i v u hv hu hr1
  | tup hl _ ih =>
    intro u0 h0
    obtain ⟨us, _, hr⟩ := h0.tup_inv
    refine .tup hl (fun i v u hv hu => ?_)
    obtain ⟨u1, _, hr1⟩ := hr.get hv
    exact ih i v u hv hu hr1
  | junk => exact fun _ => .junk
theorem BRep.both {w1 : World} {p p1 : Pl} {x : Blk} (h : BRep F' S' w' p x) (hF : ∀ b p p', F b = some p → F' b = some p' → F'' b = some p') (h0 : BRep F S w1 p1 x) : BRep F'' S' w' p x := by
  cases x with
  | cells cs =>
    obtain ⟨ho, arr, T, hh, hr, h1⟩ := h
    obtain ⟨_, arr0, T0, _, hr0, _⟩ := h0
    refine ⟨ho, arr, T, hh, ⟨hr.len, fun i v u hv hu => ?_⟩, h1⟩
    obtain ⟨u1, _, hr1⟩ := hr0.get hv
    exact (hr.at_ i v u hv hu).both hF hr1
  | row e xs a => exact h
  | frz e xs => exact h
  | dead => trivial
/-- what may be written while an operation with the footprint N runs -/
def O1 (w0 : World) (O : Nat → Prop) (F : Nat → Option Pl) (m : Mem) (N : List Nat) (g : Nat) : Prop :=
  (O g ∨ w0.heap.size ≤ g) ∧ ∀ (b : Nat) x p, m[b]? = some x → b ∉ N → F b = some p → x.hot p → p.g ≠ g
theorem Inv.restr (hI : Inv w0 O F S w m) (N : List Nat) : Inv w (O1 w0 O F m N) F S w (restrM N 0 m) := by
  have hin : ∀ {b : Nat} {x : Blk}, (restrM N 0 m)[b]? = some x → x ≠ .dead → b ∈ N ∧ m[b]? = some x := by
    intro b x hx hne
    rw [restrM_get, Option.map_eq_some_iff] at hx
    obtain ⟨y, hy, rfl⟩ := hx
    cases hh : has (0 + b) N with
    | false => rw [hh] at hne; exact (hne rfl).elim
    | true =>
      rw [Nat.zero_add] at hh
      exact ⟨has_iff.1 hh, by simpa using hy⟩
  have hd : ∀ {p : Pl} {x : Blk}, x.hot p → x ≠ .dead := by rintro p x h rfl; exact h
  refine ⟨⟨rfl, rfl, rfl, Nat.le_refl _, fun _ _ _ => rfl⟩, fun b hb => hI.dom b (by rwa [restrM_len] at hb), fun b x p hx hp => ?_, fun b b' x x' p p' hx hx' hp hp' h h' hne => ?_, fun b x p hx hp h => ?_, hI.sb, fun g hg hlt => ⟨?_, fun b x p hx hb hp h he => ?_⟩, fun b x hx hne => ?_⟩
  · by_cases hne : x = .dead
    · subst hne; trivial
    · exact hI.blk b x p (hin hx hne).2 hp
  · exact hI.sep b b' x x' p p' (hin hx (hd h)).2 (hin hx' (hd h')).2 hp hp' h h' hne
  · obtain ⟨hbN, hm⟩ := hin hx (hd h)
    obtain ⟨h1, h2, h3⟩ := hI.out b x p hm hp h
    exact ⟨h1, h2, .inl ⟨h3, fun b' x' p' hx' hb' hp' h' => hI.sep b' b x' x p' p hx' hm hp' hp h' h (fun e => hb' (e ▸ hbN))⟩⟩
  · rcases Nat.lt_or_ge g w0.heap.size with h | h
    · exact .inl (hI.so g hg h)
    · exact .inr h
  · exact (hI.out b x p hx hp h).1 (he ▸ hg)
  · exact hI.is b x (hin hx hne).2 hne
theorem Inv.glue (hI : Inv w0 O F S w m) {N W : List Nat} (hlt : ∀ b ∈ N, b < m.length) (hWN : ∀ b ∈ W, b ∈ N) (hI' : Inv w (O1 w0 O F m N) F' S' w' m') (hk : Keep F S w F' S' w')
    (hNW : ∀ b ∈ N, b ∉ W → ∃ x, m[b]? = some x ∧ x ≠ .dead ∧ ((∀ p, ¬ x.hot p) ∨ m'[b]? = some x)) :
    Inv w0 O (fun b => if b ∈ N then F' b else F b) S' w' (mergeM W N m' 0 m) ∧ Keep F S w (fun b => if b ∈ N then F' b else F b) S' w' ∧ Renames F' (fun b => if b ∈ N then F' b else F b) (nameF N) := by
  have hren : Renames F' (fun b => if b ∈ N then F' b else F b) (nameF N) := by
    intro b b' p hb hp
    unfold nameF at hb
    cases hh : has b N with
    | false => simp [hh] at hb
    | true =>
      simp only [hh, cond_true, Option.some.injEq] at hb
      subst hb
      show (if b ∈ N then F' b else F b) = some p
      rw [if_pos (has_iff.1 hh)]
      exact hp
  have hkF : ∀ b p, F b = some p → (if b ∈ N then F' b else F b) = some p := by
    intro b p h
    split
    · exact hk.f b p h
    · exact h
  have hkp : Keep F S w (fun b => if b ∈ N then F' b else F b) S' w' := ⟨hkF, hk.s, hk.h⟩
  -- the kinds of blocks
  have hin : ∀ {b : Nat} {x : Blk} {p : Pl}, (mergeM W N m' 0 m)[b]? = some x → (if b ∈ N then F' b else F b) = some p → x ≠ .dead →
      (b ∈ N ∧ ∃ y, m'[b]? = some y ∧ (x = y.ren (nameF N) ∨ (x = y ∧ m[b]? = some x ∧ F b = some p)) ∧ F' b = some p) ∨ ((∀ p, ¬ x.hot p) ∧ m[b]? = some x ∧ F b = some p) ∨ (b ∉ N ∧ m[b]? = some x ∧ F b = some p) := by
    intro b x p hx hp hne
    rw [mergeM_get, Option.map_eq_some_iff] at hx
    obtain ⟨y, hy, rfl⟩ := hx
    rw [Nat.zero_add] at hne ⊢
    cases hh : has b W with
    | true =>
      have hbN := hWN b (has_iff.1 hh)
      rw [if_pos hbN] at hp
      simp only [hh, cond_true] at hne ⊢
      left
      refine ⟨hbN, ?_⟩
      cases hm' : m'[b]? with
      | none => rw [List.getD_eq_getElem?_getD, hm'] at hne; exact (hne rfl).elim
      | some z => exact ⟨z, rfl, .inl (by rw [List.getD_eq_getElem?_getD, hm']; rfl), hp⟩
    | false =>
      simp only [hh, cond_false] at hne ⊢
      have hbW : b ∉ W := fun e => by rw [has_iff.2 e] at hh; cases hh
      by_cases hbN : b ∈ N
      · rw [if_pos hbN] at hp
        obtain ⟨x, hx, hxd, hor⟩ := hNW b hbN hbW
        rw [hy] at hx
        cases hx
        have hFb : F b = some p := by
          cases hF : F b with
          | none => exact (hI.is b y hy hxd hF).elim
          | some p0 => rw [hk.f b p0 hF] at hp; exact hp
        rcases hor with hor | hor
        · exact .inr (.inl ⟨hor, hy, hFb⟩)
        · exact .inl ⟨hbN, y, hor, .inr ⟨rfl, hy, hFb⟩, hp⟩
      · rw [if_neg hbN] at hp
        exact .inr (.inr ⟨hbN, hy, hp⟩)
  have hd : ∀ {p : Pl} {x : Blk}, x.hot p → x ≠ .dead := by rintro p x h rfl; exact h
  -- a hot block is of the footprint, or it is another
  have hhot : ∀ {b : Nat} {x : Blk} {p : Pl}, (mergeM W N m' 0 m)[b]? = some x → (if b ∈ N then F' b else F b) = some p → x.hot p →
      (∃ y, m'[b]? = some y ∧ F' b = some p ∧ y.hot p) ∨ (b ∉ N ∧ m[b]? = some x ∧ F b = some p) := by
    intro b x p hx hp h
    rcases hin hx hp (hd h) with ⟨_, y, hy, hor, hF⟩ | ⟨hno, _⟩ | h3
    · refine .inl ⟨y, hy, hF, ?_⟩
      rcases hor with rfl | ⟨rfl, _⟩
      · exact hot_ren.1 h
      · exact h
    · exact (hno p h).elim
    · exact .inr h3
  have hfar : ∀ {b : Nat} {x : Blk} {p : Pl}, b ∉ N → m[b]? = some x → F b = some p → x.hot p → ¬ O1 w0 O F m N p.g := fun hb hm hF h ho => ho.2 _ _ _ hm hb hF h rfl
  refine ⟨⟨⟨hI'.ext.os.trans hI.ext.os, hI'.ext.tape.trans hI.ext.tape, hI'.ext.output.trans hI.ext.output, Nat.le_trans hI.ext.size hI'.ext.size, fun g hg ho => ?_⟩, fun b hb => ?_, fun b x p hx hp => ?_, fun b b' x x' p p' hx hx' hp hp' h h' hne => ?_, fun b x p hx hp h => ?_, hI'.sb, fun g hg hlt => ?_, fun b x hx hne => ?_⟩, hkp, hren⟩
  · rw [hI'.ext.block g (Nat.lt_of_lt_of_le hg hI.ext.size) (fun h => h.1.elim ho (fun h => by omega))]
    exact hI.ext.block g hg ho
  · rw [mergeM_len] at hb
    have : b ∉ N := fun e => by have := hlt b e; omega
    show (if b ∈ N then F' b else F b) = none
    rw [if_neg this]
    exact hI.dom b hb
  · by_cases hne : x = .dead
    · subst hne; trivial
    · rcases hin hx hp hne with ⟨_, y, hy, hor, hF⟩ | ⟨hno, hm, hF⟩ | ⟨hb, hm, hF⟩
      · have hb := hI'.blk b y p hy hF
        rcases hor with rfl | ⟨rfl, hm, hF0⟩
        · exact hb.ren hren
        · refine hb.both (F := F) (fun c p1 p2 h1 h2 => ?_) (hI.blk b x p hm hF0)
          show (if c ∈ N then F' c else F c) = some p2
          split
          · exact h2
          · rw [h1]; rw [hk.f c p1 h1] at h2; exact h2
      · exact BRep.keep hkp (fun h => (hno p h).elim) (hI.blk b x p hm hF)
      · exact BRep.keep hkp (fun h => hI'.ext.block p.g (hI.out b x p hm hF h).2.1 (hfar hb hm hF h)) (hI.blk b x p hm hF)
  · rcases hhot hx hp h with ⟨y, hy, hF, hyh⟩ | ⟨hb, hm, hF⟩ <;> rcases hhot hx' hp' h' with ⟨y', hy', hF', hyh'⟩ | ⟨hb', hm', hF'⟩
    · exact hI'.sep b b' y y' p p' hy hy' hF hF' hyh hyh' hne
    · intro e
      have h1 := hI'.out b y p hy hF hyh
      have h2 := hI.out b' x' p' hm' hF' h'
      rcases h1.2.2 with h3 | h3
      · exact hfar hb' hm' hF' h' (e ▸ h3)
      · omega
    · intro e
      have h1 := hI'.out b' y' p' hy' hF' hyh'
      have h2 := hI.out b x p hm hF h
      rcases h1.2.2 with h3 | h3
      · exact hfar hb hm hF h (e.symm ▸ h3)
      · omega
    · exact hI.sep b b' x x' p p' hm hm' hF hF' h h' hne
  · rcases hhot hx hp h with ⟨y, hy, hF, hyh⟩ | ⟨hb, hm, hF⟩
    · obtain ⟨h1, h2, h3⟩ := hI'.out b y p hy hF hyh
      exact ⟨h1, h2, h3.elim (fun h => h.1) (fun h => .inr (Nat.le_trans hI.ext.size h))⟩
    · obtain ⟨h1, h2, h3⟩ := hI.out b x p hm hF h
      exact ⟨fun hs => hfar hb hm hF h (hI'.so _ hs h2), Nat.lt_of_lt_of_le h2 hI'.ext.size, h3⟩
  · have := (hI'.so g hg (Nat.lt_of_lt_of_le hlt hI.ext.size)).1
    exact this.elim id (fun h => by omega)
  · rw [mergeM_get, Option.map_eq_some_iff] at hx
    obtain ⟨y, hy, rfl⟩ := hx
    rw [Nat.zero_add] at hne
    show (if b ∈ N then F' b else F b) ≠ none
    cases hh : has b W with
    | true =>
      simp only [hh, cond_true] at hne
      have hbN := hWN b (has_iff.1 hh)
      rw [if_pos hbN]
      have hd2 := dead_ren hne
      cases hm' : m'[b]? with
      | none => rw [List.getD_eq_getElem?_getD, hm'] at hd2; exact (hd2 rfl).elim
      | some z => exact hI'.is b z hm' (by rw [List.getD_eq_getElem?_getD, hm'] at hd2; exact hd2)
    | false =>
      simp only [hh, cond_false] at hne
      have h1 := hI.is b y hy hne
      intro hcon
      cases hF : F b with
      | none => exact h1 hF
      | some p => rw [hkF b p hF] at hcon; cases hcon
end
end Go.Vi

/-
  Vi, part 19: readers; regions whose order is drawn.
-/
namespace Go.Vi
open Go
section
variable {m m' : Mem} {P : Program} {τ : Tau} {Γ : Gam R0}
theorem lift1_mem {f : (V → Option R0) → Option R0} {g : Option V} (h : ∀ K, f K = g.bind K) {v : V} (hf : f (fun v => K0 v m) = some (v, m')) : m' = m := by
  rw [h] at hf
  cases g with
  | none => cases hf
  | some x => cases hf; rfl
theorem lay_other {i b : Nat} {l : List Nat} {x : Blk} (hb : b ≠ i) : (lay (some (i :: l)) m x).2[b]? = m[b]? := List.getElem?_set_ne (fun e => hb e.symm)
theorem reader_mem {s : List V} {o : Op} {i : Nat} {l : List Nat} {v : V} (hr : reader o = true) (h : opV τ Γ (some (i :: l)) s m o K0 = some (v, m')) (b : Nat) (hb : b ≠ i) : m'[b]? = m[b]? := by
  unfold opV at h
  split at h
  · cases h; rfl
  · cases h; rfl
  · split at h
    · rename_i c _; cases c <;> cases h <;> rfl
    · cases h
  · rw [lift1_mem (fun K => binV_nat _ _ _ _ K) h]
  · rw [lift1_mem (fun K => unV_nat _ _ K) h]
  · rw [lift1_mem (fun K => indexAddrV_nat _ _ _ K) h]
  · rw [lift1_mem (fun K => indexV_nat _ _ _ K) h]
  · rw [lift1_mem (fun K => fieldAddrV_nat _ _ _ K) h]
  · rw [lift1_mem (fun K => fieldV_nat _ _ _ K) h]
  · rw [lift1_mem (fun K => loadV_nat _ _ K) h]
  · cases hr
  · cases hr
  · unfold convV at h
    repeat' (first | (cases h; done) | (cases h; exact lay_other hb) | (cases h; rfl) | split at h)
  · split at h
    · cases h; exact lay_other hb
    · cases h
  · split at h
    · cases h; exact lay_other hb
    · cases h
  · rw [lift1_mem (fun K => buildV_nat _ _ K) h]
  · cases hr
  · unfold makeV at h
    repeat' (first | (cases h; done) | split at h)
    rename_i c _
    obtain ⟨_, h⟩ := chk_some h
    cases h
    exact lay_other hb
  · cases h; rfl
  · repeat' (first | (cases h; done) | (cases h; rfl) | split at h)
  · repeat' (first | (cases h; done) | (cases h; rfl) | split at h)
  · rename_i c
    unfold callV at h
    unfold reader at hr
    split at h
    · repeat' (first | (cases h; done) | (cases h; rfl) | split at h)
    · repeat' (first | (cases h; done) | (cases h; rfl) | split at h)
    · repeat' (first | (cases h; done) | (cases h; rfl) | split at h)
    · rename_i hc; simp [hc] at hr
    · rename_i hc; simp [hc] at hr
    · cases h
  · cases h
end
end Go.Vi

/-
  Vi, part 20: regions whose order is drawn: what was evaluated in one order serves for every order.
-/
namespace Go.Vi
open Go
/-! ## the last write -/
open Classical in
noncomputable def pif {α : Type} (p : Prop) (a b : α) : α := if p then a else b
theorem pif_pos {α : Type} {p : Prop} {a b : α} (h : p) : pif p a b = a := if_pos h
theorem pif_neg {α : Type} {p : Prop} {a b : α} (h : ¬ p) : pif p a b = b := if_neg h
theorem pif_congr {α : Type} {p q : Prop} {a b : α} (h : p ↔ q) : pif p a b = pif q a b := by rw [propext h]
noncomputable def lastw {α : Type} (W : Nat → Nat → Prop) (x : Nat → Nat → α) (E : Nat → Prop) (z : Nat → α) : Nat → Nat → α
  | 0, b => z b
  | k + 1, b => pif (E k ∧ W k b) (x k b) (lastw W x E z k b)
section
variable {α : Type} {W : Nat → Nat → Prop} {x : Nat → Nat → α} {E E' : Nat → Prop} {z : Nat → α} {b : Nat}
theorem lastw_congr : ∀ {n : Nat}, (∀ j, j < n → W j b → (E j ↔ E' j)) → lastw W x E z n b = lastw W x E' z n b
  | 0, _ => rfl
  | n + 1, h => by
    show pif _ _ _ = pif _ _ _
    rw [lastw_congr (n := n) fun j hj => h j (by omega)]
    exact pif_congr ⟨fun ⟨h1, h2⟩ => ⟨(h n (by omega) h2).1 h1, h2⟩, fun ⟨h1, h2⟩ => ⟨(h n (by omega) h2).2 h1, h2⟩⟩
theorem lastw_upto {i : Nat} : ∀ {n : Nat}, i ≤ n → lastw W x (fun j => j < i) z n b = lastw W x (fun _ => True) z i b
  | 0, h => by have : i = 0 := by omega
               subst this; rfl
  | n + 1, h => by
    by_cases hi : i = n + 1
    · subst hi
      exact lastw_congr fun j hj _ => by simp [hj]
    · show pif _ _ _ = _
      rw [pif_neg (by omega), lastw_upto (by omega)]
theorem lastw_at {i n : Nat} (hi : i ≤ n) (h : ∀ j, j < n → W j b → (E j ↔ j < i)) : lastw W x E z n b = lastw W x (fun _ => True) z i b :=
  (lastw_congr h).trans (lastw_upto hi)
theorem lastw_add {i : Nat} (hE : ¬ E i) : ∀ {n : Nat}, i < n → (∀ j, i < j → j < n → E j → W j b → ¬ W i b) → lastw W x (fun j => E j ∨ j = i) z n b = pif (W i b) (x i b) (lastw W x E z n b)
  | 0, h, _ => by omega
  | n + 1, h, hc => by
    show pif _ _ _ = pif _ _ (pif _ _ _)
    by_cases hin : i = n
    · subst hin
      rw [pif_congr (q := W i b) (by simp), pif_neg (p := E i ∧ W i b) (fun h => hE h.1)]
      rw [lastw_congr (E' := E) (n := i) fun j hj _ => by simp [Nat.ne_of_lt hj]]
    · have ih := lastw_add hE (n := n) (by omega) (fun j h1 h2 => hc j h1 (by omega))
      have hni : ¬ n = i := fun e => hin e.symm
      by_cases hn : E n ∧ W n b
      · rw [pif_pos (p := (E n ∨ n = i) ∧ W n b) ⟨.inl hn.1, hn.2⟩, pif_neg (hc n (by omega) (by omega) hn.1 hn.2), pif_pos hn]
      · rw [pif_neg (p := (E n ∨ n = i) ∧ W n b) (fun h => hn ⟨h.1.resolve_right hni, h.2⟩), pif_neg hn, ih]
end
/-! ## a run in the order of the indices -/
def wantedV (ops : Array Oper) (s : List V) (o : Oper) : Option Bool := match o.guard with
  | none => some true
  | some (j, want) => match (ops[j]?).bind (·.dst) with
    | some d => (isTrue (s.getD d .junk)).map (· == want)
    | none => none
structure Rc where
  want : Bool
  v : V
  N : List Nat
  W : List Nat
  m' : Mem
section
variable {P : Program} {τ : Tau} {Γ : Gam R0} {ops : Array Oper} {base q : Nat}
def Step (τ : Tau) (Γ : Gam R0) (ops : Array Oper) (base : Nat) (o : Oper) (i : Nat) (s : List V) (m : Mem) (rc : Rc) (s' : List V) (m' : Mem) : Prop :=
  s' = put s o.dst rc.v ∧ wantedV ops s o = some rc.want ∧
  ((rc.want = true ∧ (∃ v0, opV τ Γ (some (res base i)) (restrS (looks o) 0 s) (restrM rc.N 0 m) o.op K0 = some (v0, rc.m') ∧ rc.v = v0.ren (nameF rc.N)) ∧ rc.N = footN s m (looks o) (base + 2 * i) ++ res base i ∧
      rc.W = footW m o.op (footN s m (looks o) (base + 2 * i)) ++ res base i ∧ m' = mergeM rc.W rc.N rc.m' 0 m) ∨
    (rc.want = false ∧ rc.v = .junk ∧ rc.N = [] ∧ rc.W = [] ∧ m' = m))
theorem drawE_run (hΓ : GamOk P Γ) {K : List V → Mem → Option R0} {r : R0} : ∀ {rest : List Oper} {acc : List (List Nat × List Nat)} {s : List V} {m : Mem}, drawE τ Γ ops q base rest acc s m K = some r →
    ∃ (rs : List Rc) (st : Nat → List V × Mem), rs.length = rest.length ∧ st 0 = (s, m) ∧ (∀ j o, rest[j]? = some o → ∃ rc, rs[j]? = some rc ∧ Step τ Γ ops base o (acc.length + j) (st j).1 (st j).2 rc (st (j + 1)).1 (st (j + 1)).2) ∧
      backs ops = true ∧ freeOf ops (ancs ops ops.size) (acc ++ rs.map fun r => (r.N, r.W)) = true ∧ gc q (st rest.length).1 (st rest.length).2 K = some r
  | [], acc, s, m, h => by
    simp only [drawE] at h
    cases hb : (backs ops && freeOf ops (ancs ops ops.size) acc) with
    | false => rw [hb] at h; cases h
    | true =>
      rw [hb] at h
      rw [Bool.and_eq_true] at hb
      exact ⟨[], fun _ => (s, m), rfl, rfl, fun j o hj => by simp at hj, hb.1, by simpa using hb.2, h⟩
  | o :: rest, acc, s, m, h => by
    have more : ∀ {rc : Rc} {s' : List V} {m' : Mem}, Step τ Γ ops base o acc.length s m rc s' m' → drawE τ Γ ops q base rest (acc ++ [(rc.N, rc.W)]) s' m' K = some r →
        ∃ (rs : List Rc) (st : Nat → List V × Mem), rs.length = (o :: rest).length ∧ st 0 = (s, m) ∧ (∀ j o', (o :: rest)[j]? = some o' → ∃ rc, rs[j]? = some rc ∧ Step τ Γ ops base o' (acc.length + j) (st j).1 (st j).2 rc (st (j + 1)).1 (st (j + 1)).2) ∧
          backs ops = true ∧ freeOf ops (ancs ops ops.size) (acc ++ rs.map fun r => (r.N, r.W)) = true ∧ gc q (st (o :: rest).length).1 (st (o :: rest).length).2 K = some r := by
      intro rc s' m' hst h
      obtain ⟨rs, st, hl, h0, hs, hb, hf, hg⟩ := drawE_run hΓ h
      refine ⟨rc :: rs, fun k => match k with | 0 => (s, m) | k + 1 => st k, by simp [hl], rfl, fun j o' hj => ?_, hb, by simpa using hf, hg⟩
      cases j with
      | zero =>
        cases hj
        refine ⟨rc, rfl, ?_⟩
        show Step τ Γ ops base o (acc.length + 0) s m rc (st 0).1 (st 0).2
        rw [h0]
        exact hst
      | succ j =>
        obtain ⟨rc', hrc, hstep⟩ := hs j o' hj
        refine ⟨rc', hrc, ?_⟩
        have : acc.length + (j + 1) = (acc ++ [(rc.N, rc.W)]).length + j := by simp; omega
        rw [this]
        exact hstep
    have run : ∀ {s1 : List V}, s1 = s → wantedV ops s o = some true → drawOp τ Γ (res base acc.length) s1 m o (footN s m (looks o) (base + 2 * acc.length)) (footW m o.op (footN s m (looks o) (base + 2 * acc.length))) (fun v m' => drawE τ Γ ops q base rest (acc ++ [(footN s m (looks o) (base + 2 * acc.length) ++ res base acc.length, footW m o.op (footN s m (looks o) (base + 2 * acc.length)) ++ res base acc.length)]) (put s1 o.dst v) m' K) = some r →
        ∃ (rs : List Rc) (st : Nat → List V × Mem), rs.length = (o :: rest).length ∧ st 0 = (s, m) ∧ (∀ j o', (o :: rest)[j]? = some o' → ∃ rc, rs[j]? = some rc ∧ Step τ Γ ops base o' (acc.length + j) (st j).1 (st j).2 rc (st (j + 1)).1 (st (j + 1)).2) ∧
          backs ops = true ∧ freeOf ops (ancs ops ops.size) (acc ++ rs.map fun r => (r.N, r.W)) = true ∧ gc q (st (o :: rest).length).1 (st (o :: rest).length).2 K = some r := by
      rintro s1 rfl hw h
      unfold drawOp at h
      obtain ⟨v0, m0, hop, hK⟩ := of_nat (opV_nat hΓ _ _) h
      exact more (rc := ⟨true, _, _, _, m0⟩) ⟨rfl, hw, .inl ⟨rfl, ⟨v0, hop, rfl⟩, rfl, rfl, rfl⟩⟩ hK
    have skip : ∀ {s1 : List V}, s1 = s → wantedV ops s o = some false → drawE τ Γ ops q base rest (acc ++ [([], [])]) (put s1 o.dst .junk) m K = some r →
        ∃ (rs : List Rc) (st : Nat → List V × Mem), rs.length = (o :: rest).length ∧ st 0 = (s, m) ∧ (∀ j o', (o :: rest)[j]? = some o' → ∃ rc, rs[j]? = some rc ∧ Step τ Γ ops base o' (acc.length + j) (st j).1 (st j).2 rc (st (j + 1)).1 (st (j + 1)).2) ∧
          backs ops = true ∧ freeOf ops (ancs ops ops.size) (acc ++ rs.map fun r => (r.N, r.W)) = true ∧ gc q (st (o :: rest).length).1 (st (o :: rest).length).2 K = some r := by
      rintro s1 rfl hw h
      exact more (rc := ⟨false, .junk, [], [], []⟩) ⟨rfl, hw, .inr ⟨rfl, rfl, rfl, rfl, rfl⟩⟩ h
    simp only [drawE] at h
    split at h
    · rename_i hg
      exact run rfl (by simp [wantedV, hg]) h
    · rename_i j want hg
      split at h
      · rename_i d hd
        split at h
        · rename_i b hb
          have hset := set_same hb
          have hw : wantedV ops s o = some (b == want) := by
            unfold wantedV
            rw [hg]
            simp only [hd, hb]
            rfl
          cases b <;> cases want <;> simp only [cond_true, cond_false] at h
          · exact run hset hw h
          · exact skip hset hw h
          · exact skip hset hw h
          · exact run hset hw h
        · cases h
      · cases h
end
end Go.Vi

/-
  Vi, part 21: every order of a region comes to what the order of the indices comes to.
-/
namespace Go.Vi
open Go
section
variable {P : Program} {τ : Tau} {Γ : Gam R0} {ops : Array Oper} {base : Nat}
/-- a whole run -/
structure Run (τ : Tau) (Γ : Gam R0) (ops : Array Oper) (base : Nat) (rs : List Rc) (st : Nat → List V × Mem) : Prop where
  len : rs.length = ops.size
  step : ∀ i o, ops[i]? = some o → ∃ rc, rs[i]? = some rc ∧ Step τ Γ ops base o i (st i).1 (st i).2 rc (st (i + 1)).1 (st (i + 1)).2
  back : backs ops = true
  free : freeOf ops (ancs ops ops.size) (rs.map fun r => (r.N, r.W)) = true
  mlen : (st 0).2.length = base + 2 * ops.size
  dead : ∀ b, base ≤ b → b < base + 2 * ops.size → (st 0).2[b]? = some .dead
def WS (ops : Array Oper) (st : Nat → List V × Mem) (i t : Nat) : Prop := t < (st 0).1.length ∧ ∃ o, ops[i]? = some o ∧ o.dst = some t
def XS (rs : List Rc) (i _t : Nat) : Option V := (rs[i]?).map Rc.v
def WM (rs : List Rc) (st : Nat → List V × Mem) (i b : Nat) : Prop := b < (st 0).2.length ∧ ∃ rc, rs[i]? = some rc ∧ b ∈ rc.W
def XM (rs : List Rc) (i b : Nat) : Option Blk := (rs[i]?).map fun rc => (rc.m'.getD b .dead).ren (nameF rc.N)
variable {rs : List Rc} {st : Nat → List V × Mem}
theorem put_get (s : List V) (d : Option Tmp) (v : V) (t : Nat) : (put s d v)[t]? = if d = some t ∧ t < s.length then some v else s[t]? := by
  cases d with
  | none => simp [put]
  | some e =>
    simp only [put, List.getElem?_set, Option.some.injEq]
    by_cases he : e = t
    · subst he
      by_cases hl : e < s.length
      · simp [hl]
      · simp [hl]
    · simp [he]
theorem put_len (s : List V) (d : Option Tmp) (v : V) : (put s d v).length = s.length := by cases d <;> simp [put]
theorem merge_get (W N : List Nat) (m' m : Mem) (b : Nat) : (mergeM W N m' 0 m)[b]? = if b ∈ W ∧ b < m.length then some ((m'.getD b .dead).ren (nameF N)) else m[b]? := by
  rw [mergeM_get, Nat.zero_add]
  by_cases hl : b < m.length
  · rw [List.getElem?_eq_getElem hl]
    cases hh : has b W with
    | true => simp [has_iff.1 hh, hl]
    | false =>
      have : b ∉ W := fun e => by rw [has_iff.2 e] at hh; cases hh
      simp [this]
  · rw [List.getElem?_eq_none (by omega)]
    simp [hl]
/-- what a step does, for both kinds -/
theorem Step.upd {o : Oper} {i : Nat} {s s' : List V} {m m' : Mem} {rc : Rc} (h : Step τ Γ ops base o i s m rc s' m') :
    s' = put s o.dst rc.v ∧ m'.length = m.length ∧ ∀ b, m'[b]? = if b ∈ rc.W ∧ b < m.length then some ((rc.m'.getD b .dead).ren (nameF rc.N)) else m[b]? := by
  obtain ⟨h1, _, h | h⟩ := h
  · obtain ⟨_, _, _, _, rfl⟩ := h
    exact ⟨h1, mergeM_len _ _ _ _ _, merge_get _ _ _ _⟩
  · obtain ⟨_, _, _, hW, rfl⟩ := h
    exact ⟨h1, rfl, fun b => by simp [hW]⟩
theorem Run.seq (R : Run τ Γ ops base rs st) : ∀ i, i ≤ ops.size → (st i).1.length = (st 0).1.length ∧ (∀ t, (st i).1[t]? = lastw (WS ops st) (XS rs) (fun _ => True) (fun t => (st 0).1[t]?) i t) ∧
    (st i).2.length = (st 0).2.length ∧ ∀ b, (st i).2[b]? = lastw (WM rs st) (XM rs) (fun _ => True) (fun b => (st 0).2[b]?) i b
  | 0, _ => ⟨rfl, fun _ => rfl, rfl, fun _ => rfl⟩
  | i + 1, hi => by
    obtain ⟨a1, a2, a3, a4⟩ := R.seq i (by omega)
    have ho : ops[i]? = some ops[i] := Array.getElem?_eq_getElem (by omega)
    obtain ⟨rc, hrc, hst⟩ := R.step i _ ho
    obtain ⟨h1, h2, h3⟩ := hst.upd
    refine ⟨by rw [h1, put_len, a1], fun t => ?_, by rw [h2, a3], fun b => ?_⟩
    · rw [h1, put_get, a2, a1]
      show _ = pif _ _ _
      by_cases hw : ops[i].dst = some t ∧ t < (st 0).1.length
      · rw [if_pos hw, pif_pos ⟨trivial, hw.2, _, ho, hw.1⟩]
        simp [XS, hrc]
      · rw [if_neg hw, pif_neg]
        rintro ⟨_, h4, o, ho', h5⟩
        rw [ho] at ho'
        cases ho'
        exact hw ⟨h5, h4⟩
    · rw [h3, a4, a3]
      show _ = pif _ _ _
      by_cases hw : b ∈ rc.W ∧ b < (st 0).2.length
      · rw [if_pos hw, pif_pos ⟨trivial, hw.2, rc, hrc, hw.1⟩]
        simp [XM, hrc]
      · rw [if_neg hw, pif_neg]
        rintro ⟨_, h4, rc', hrc', h5⟩
        rw [hrc] at hrc'
        cases hrc'
        exact hw ⟨h5, h4⟩
/-- E is closed downwards -/
def Down (ops : Array Oper) (E : Nat → Prop) : Prop := ∀ i o, ops[i]? = some o → E i → ∀ e ∈ o.after, Region.binds .any e = true → E e.on
theorem ancs_len : ∀ n, (ancs ops n).length = n
  | 0 => rfl
  | n + 1 => by simp [ancs, ancs_len n]
theorem ancs_getD {n i : Nat} (h : i < n) : (ancs ops n).getD i [] = match ops[i]? with
    | some o => o.after.toList.flatMap fun e => bif Region.binds .any e then e.on :: (ancs ops i).getD e.on [] else []
    | none => [] := by
  induction n with
  | zero => omega
  | succ n ih =>
    have hl := ancs_len (ops := ops) n
    simp only [ancs, List.getD_eq_getElem?_getD]
    by_cases hin : i < n
    · rw [List.getElem?_append_left (by omega), ← List.getD_eq_getElem?_getD]
      exact ih hin
    · have : i = n := by omega
      subst this
      rw [List.getElem?_append_right (by omega), hl]
      simp only [Nat.sub_self, List.getElem?_cons_zero, Option.getD_some]
      cases ops[i]? <;> rfl
theorem anc_down {E : Nat → Prop} (hE : Down ops E) : ∀ {i j : Nat} {o : Oper}, ops[i]? = some o → (∀ e ∈ o.after, Region.binds .any e = true → E e.on) → ∀ {n}, i < n → j ∈ (ancs ops n).getD i [] → E j := by
  intro i
  induction i using Nat.strongRecOn with
  | ind i ih =>
    intro j o ho hr n hn hj
    rw [ancs_getD hn, ho] at hj
    simp only [List.mem_flatMap] at hj
    obtain ⟨e, he, hj⟩ := hj
    cases hb : Region.binds .any e with
    | false => simp [hb] at hj
    | true =>
      have he' : e ∈ o.after := by simpa using he
      simp only [hb, cond_true, List.mem_cons] at hj
      rcases hj with rfl | hj
      · exact hr e he' hb
      · have hlt : e.on < i := by
          rcases Nat.lt_or_ge e.on i with h | h
          · exact h
          · rw [List.getD_eq_getElem?_getD, List.getElem?_eq_none (by rw [ancs_len]; exact h)] at hj
            simp at hj
        have hEe := hr e he' hb
        have hsz : e.on < ops.size := Nat.lt_trans hlt (Array.getElem?_eq_some_iff.1 ho).1
        have ho2 : ops[e.on]? = some ops[e.on] := Array.getElem?_eq_getElem hsz
        exact ih e.on hlt ho2 (fun e' he'' hb' => hE _ _ ho2 hEe e' he'' hb') hlt hj
/-- two operations of which neither must come first -/
theorem Run.pair (R : Run τ Γ ops base rs st) {i j : Nat} {oi oj : Oper} {ri rj : Rc} (hi : ops[i]? = some oi) (hj : ops[j]? = some oj) (hri : rs[i]? = some ri) (hrj : rs[j]? = some rj) (hji : j < i) :
    j ∈ (ancs ops ops.size).getD i [] ∨ (oj.apart ops oi = true ∧ (∀ b ∈ rj.W, b ∉ ri.N) ∧ (∀ b ∈ ri.W, b ∉ rj.N)) := by
  have h := R.free
  have hlt := (Array.getElem?_eq_some_iff.1 hi).1
  unfold freeOf at h
  rw [List.all_eq_true] at h
  have h1 := h i (by simpa using hlt)
  rw [List.all_eq_true] at h1
  have h2 := h1 j (by simpa using hji)
  have e1 : (rs.map fun r => (r.N, r.W)).getD i ([], []) = (ri.N, ri.W) := by simp [List.getD_eq_getElem?_getD, hri]
  have e2 : (rs.map fun r => (r.N, r.W)).getD j ([], []) = (rj.N, rj.W) := by simp [List.getD_eq_getElem?_getD, hrj]
  rw [hi, hj, e1, e2] at h2
  simp only [Bool.or_eq_true, Bool.and_eq_true] at h2
  rcases h2 with h2 | ⟨⟨h2, h3⟩, h4⟩
  · exact .inl (has_iff.1 h2)
  · refine .inr ⟨h2, fun b hb hb' => ?_, fun b hb hb' => ?_⟩
    · unfold disj at h3
      rw [List.all_eq_true] at h3
      have := h3 b hb
      rw [has_iff.2 hb'] at this
      cases this
    · unfold disj at h4
      rw [List.all_eq_true] at h4
      have := h4 b hb
      rw [has_iff.2 hb'] at this
      cases this
theorem Step.sub {o : Oper} {i : Nat} {s s' : List V} {m m' : Mem} {rc : Rc} (h : Step τ Γ ops base o i s m rc s' m') : ∀ b ∈ rc.W, b ∈ rc.N := by
  obtain ⟨_, _, h | h⟩ := h
  · obtain ⟨_, _, hN, hW, _⟩ := h
    intro b hb
    rw [hW] at hb
    rw [hN]
    rcases List.mem_append.1 hb with hb | hb
    · unfold footW at hb
      cases hr : reader o.op with
      | true => simp [hr] at hb
      | false =>
        simp only [hr, cond_false] at hb
        exact List.mem_append_left _ (List.mem_filter.1 hb).1
    · exact List.mem_append_right _ hb
  · obtain ⟨_, _, _, hW, _⟩ := h
    intro b hb
    rw [hW] at hb
    cases hb
/-- the operations that touch what an operation looks at are those before it -/
theorem Run.before (R : Run τ Γ ops base rs st) {E : Nat → Prop} (hE : Down ops E) {i : Nat} {oi : Oper} {ri : Rc} (hi : ops[i]? = some oi) (hri : rs[i]? = some ri) (hno : ¬ E i) (hready : ∀ e ∈ oi.after, Region.binds .any e = true → E e.on) :
    (∀ t ∈ oi.looksAt ops, ∀ j, j < ops.size → WS ops st j t → (E j ↔ j < i)) ∧ (∀ b ∈ ri.N, ∀ j, j < ops.size → WM rs st j b → (E j ↔ j < i)) := by
  have hlt := (Array.getElem?_eq_some_iff.1 hi).1
  have key : ∀ j oj rj, ops[j]? = some oj → rs[j]? = some rj → (∃ t ∈ oi.looksAt ops, oj.dst = some t) ∨ (∃ b ∈ ri.N, b ∈ rj.W) → (E j ↔ j < i) := by
    intro j oj rj hj hrj hc
    rcases Nat.lt_trichotomy j i with h | h | h
    · rcases R.pair hi hj hri hrj h with h1 | ⟨h1, h2, h3⟩
      · exact ⟨fun _ => h, fun _ => anc_down hE hi hready hlt h1⟩
      · exfalso
        rcases hc with ⟨t, ht, hd⟩ | ⟨b, hb, hw⟩
        · exact (Oper.apart_spec h1).1 t hd ht
        · exact h2 b hw hb
    · subst h
      exact ⟨fun h => (hno h).elim, fun h => by omega⟩
    · refine ⟨fun hEj => ?_, fun h' => by omega⟩
      rcases R.pair hj hi hrj hri h with h1 | ⟨h1, h2, h3⟩
      · exact (hno (anc_down hE hj (fun e he hb => hE j oj hj hEj e he hb) (Array.getElem?_eq_some_iff.1 hj).1 h1)).elim
      · exfalso
        rcases hc with ⟨t, ht, hd⟩ | ⟨b, hb, hw⟩
        · exact (Oper.apart_spec h1).2.2 t hd ht
        · exact h3 b hw hb
  refine ⟨fun t ht j hj hw => ?_, fun b hb j hj hw => ?_⟩
  · obtain ⟨_, o, ho, hd⟩ := hw
    obtain ⟨rc, hrc, _⟩ := R.step j o ho
    exact key j o rc ho hrc (.inl ⟨t, ht, hd⟩)
  · obtain ⟨_, rc, hrc, hw⟩ := hw
    have ho : ops[j]? = some ops[j] := Array.getElem?_eq_getElem hj
    exact key j _ rc ho hrc (.inr ⟨b, hb, hw⟩)
/-- the operations behind it that are done write nothing that it writes -/
theorem Run.behind (R : Run τ Γ ops base rs st) {E : Nat → Prop} (hE : Down ops E) {i : Nat} {oi : Oper} {ri : Rc} (hi : ops[i]? = some oi) (hri : rs[i]? = some ri) (hno : ¬ E i) :
    (∀ t j, i < j → j < ops.size → E j → WS ops st j t → ¬ WS ops st i t) ∧ (∀ b j, i < j → j < ops.size → E j → WM rs st j b → ¬ WM rs st i b) := by
  have key : ∀ j oj rj, i < j → E j → ops[j]? = some oj → rs[j]? = some rj → oi.apart ops oj = true ∧ (∀ b ∈ ri.W, b ∉ rj.N) := by
    intro j oj rj h hEj hj hrj
    rcases R.pair hj hi hrj hri h with h1 | ⟨h1, h2, h3⟩
    · exact (hno (anc_down hE hj (fun e he hb => hE j oj hj hEj e he hb) (Array.getElem?_eq_some_iff.1 hj).1 h1)).elim
    · exact ⟨h1, h2⟩
  refine ⟨fun t j hij hj hEj hw hw' => ?_, fun b j hij hj hEj hw hw' => ?_⟩
  · obtain ⟨_, o, ho, hd⟩ := hw
    obtain ⟨_, o', ho', hd'⟩ := hw'
    rw [hi] at ho'
    cases ho'
    obtain ⟨rc, hrc, _⟩ := R.step j o ho
    exact (Oper.apart_spec (key j o rc hij hEj ho hrc).1).2.1 t hd' hd
  · obtain ⟨_, rc, hrc, hb⟩ := hw
    obtain ⟨_, rc', hrc', hb'⟩ := hw'
    rw [hri] at hrc'
    cases hrc'
    have ho : ops[j]? = some ops[j] := Array.getElem?_eq_getElem hj
    obtain ⟨rc2, hrc2, hst⟩ := R.step j _ ho
    rw [hrc] at hrc2
    cases hrc2
    exact (key j _ rc hij hEj ho hrc).2 b hb' (hst.sub b hb)
end
end Go.Vi

/-
  Vi, part 22: regions whose order is drawn, done.
-/
namespace Go.Vi
open Go
section
variable {P : Program} {τ : Tau} {Γ : Gam R0} {ops : Array Oper} {base : Nat} {rs : List Rc} {st : Nat → List V × Mem}
variable {w0 wB : World} {O : Nat → Prop} {FB : Nat → Option Pl} {SB : Nat → Prop}
theorem lastw_none {α : Type} {W : Nat → Nat → Prop} {x : Nat → Nat → α} {E : Nat → Prop} {z : Nat → α} {b : Nat} : ∀ {n : Nat}, (∀ j, j < n → E j → ¬ W j b) → lastw W x E z n b = z b
  | 0, _ => rfl
  | n + 1, h => by
    show pif _ _ _ = _
    rw [pif_neg (fun hh => h n (by omega) hh.1 hh.2), lastw_none fun j hj => h j (by omega)]
theorem lastw_all {α : Type} {W : Nat → Nat → Prop} {x : Nat → Nat → α} {E : Nat → Prop} {z : Nat → α} {b n : Nat} (h : ∀ j, j < n → E j) : lastw W x E z n b = lastw W x (fun _ => True) z n b :=
  lastw_congr fun j hj _ => by simp [h j hj]
theorem Step.bound {o : Oper} {i : Nat} {s s' : List V} {m m' : Mem} {rc : Rc} (h : Step τ Γ ops base o i s m rc s' m') : ∀ b ∈ rc.N, b < base + 2 * i + 2 := by
  obtain ⟨_, _, h | h⟩ := h
  · obtain ⟨_, _, hN, _, _⟩ := h
    intro b hb
    rw [hN] at hb
    rcases List.mem_append.1 hb with hb | hb
    · unfold footN at hb
      have := (List.mem_filter.1 hb).2
      simp only [Bool.and_eq_true] at this
      have : b < base + 2 * i := by simpa [Nat.blt_eq] using this.1
      omega
    · simp only [res, List.mem_cons, List.not_mem_nil, or_false] at hb
      omega
  · obtain ⟨_, _, hN, _, _⟩ := h
    intro b hb
    rw [hN] at hb
    cases hb
/-- the state when the operations E are done -/
structure Cfg (ops : Array Oper) (rs : List Rc) (st : Nat → List V × Mem) (E : Nat → Prop) (s : List V) (m : Mem) : Prop where
  sl : s.length = (st 0).1.length
  sg : ∀ t, s[t]? = lastw (WS ops st) (XS rs) E (fun t => (st 0).1[t]?) ops.size t
  ml : m.length = (st 0).2.length
  mg : ∀ b, m[b]? = lastw (WM rs st) (XM rs) E (fun b => (st 0).2[b]?) ops.size b
def DSt (ops : Array Oper) (base : Nat) (rs : List Rc) (st : Nat → List V × Mem) (w0 : World) (O : Nat → Prop) (FB : Nat → Option Pl) (SB : Nat → Prop) (wB : World) (E : Nat → Prop) (a : Act) (w : World) : Prop :=
  a.defers = [] ∧ ∃ s m F S, SR F S w s a ∧ Inv w0 O F S w m ∧ Keep FB SB wB F S w ∧ Cfg ops rs st E s m ∧ ∀ j rj, rs[j]? = some rj → rj.want = true → ¬ E j → ∀ b ∈ res base j, F b = none
theorem Cfg.add (R : Run τ Γ ops base rs st) {E : Nat → Prop} (hE : Down ops E) {s s' : List V} {m m' : Mem} (hc : Cfg ops rs st E s m) {i : Nat} {oi : Oper} {ri : Rc} (hi : ops[i]? = some oi) (hri : rs[i]? = some ri) (hno : ¬ E i)
    (h1 : s' = put s oi.dst ri.v) (h2 : m'.length = m.length) (h3 : ∀ b, m'[b]? = if b ∈ ri.W ∧ b < m.length then some ((ri.m'.getD b .dead).ren (nameF ri.N)) else m[b]?) : Cfg ops rs st (fun j => E j ∨ j = i) s' m' := by
  have hlt := (Array.getElem?_eq_some_iff.1 hi).1
  obtain ⟨b1, b2⟩ := R.behind hE hi hri hno
  refine ⟨by rw [h1, put_len, hc.sl], fun t => ?_, by rw [h2, hc.ml], fun b => ?_⟩
  · rw [lastw_add hno hlt (fun j => b1 t j), h1, put_get, hc.sg, hc.sl]
    by_cases hw : oi.dst = some t ∧ t < (st 0).1.length
    · rw [if_pos hw, pif_pos ⟨hw.2, oi, hi, hw.1⟩]
      simp [XS, hri]
    · rw [if_neg hw, pif_neg]
      rintro ⟨h4, o, ho, h5⟩
      rw [hi] at ho
      cases ho
      exact hw ⟨h5, h4⟩
  · rw [lastw_add hno hlt (fun j => b2 b j), h3, hc.mg, hc.ml]
    by_cases hw : b ∈ ri.W ∧ b < (st 0).2.length
    · rw [if_pos hw, pif_pos ⟨hw.2, ri, hri, hw.1⟩]
      simp [XM, hri]
    · rw [if_neg hw, pif_neg]
      rintro ⟨h4, rc, hrc, h5⟩
      rw [hri] at hrc
      cases hrc
      exact hw ⟨h5, h4⟩
theorem draw_exec (hτ : TOK P τ) (hΓ : GamOk P Γ) (R : Run τ Γ ops base rs st) {E : Nat → Prop} (hE : Down ops E) {Q : Exit → Act → World → Prop} {i : Nat} {oi : Oper} (hi : ops[i]? = some oi) (hno : ¬ E i) (hready : ∀ e ∈ oi.after, Region.binds .any e = true → E e.on)
    {a : Act} {w : World} (hs : DSt ops base rs st w0 O FB SB wB E a w) {K : Act → World → Prop} (hK : ∀ a w, DSt ops base rs st w0 O FB SB wB (fun j => E j ∨ j = i) a w → K a w) : wpOp P ops Q i K a w := by
  obtain ⟨hd, s, m, F, S, hr, hI, hkp, hc, hnames⟩ := hs
  obtain ⟨ri, hri, hstep⟩ := R.step i oi hi
  have hlt := (Array.getElem?_eq_some_iff.1 hi).1
  obtain ⟨bS, bM⟩ := R.before hE hi hri hno hready
  obtain ⟨q1, q2, q3, q4⟩ := R.seq i (by omega)
  have aS : ∀ t ∈ oi.looksAt ops, s[t]? = (st i).1[t]? := fun t ht => by rw [hc.sg, q2]; exact lastw_at (by omega) (bS t ht)
  have aM : ∀ b ∈ ri.N, m[b]? = (st i).2[b]? := fun b hb => by rw [hc.mg, q4]; exact lastw_at (by omega) (bM b hb)
  have hslen : s.length = (st i).1.length := by rw [hc.sl, q1]
  have hmlen : m.length = (st i).2.length := by rw [hc.ml, q3]
  have hml : m.length = base + 2 * ops.size := by rw [hc.ml, R.mlen]
  -- whether it is wanted
  have hwant : Region.wanted oi (yielded ops a.tmps) = ri.want := by
    have hw := hstep.2.1
    unfold wantedV at hw
    split at hw
    · rename_i hg
      rw [← Option.some.inj hw]
      simp [Region.wanted, hg]
    · rename_i j want hg
      split at hw
      · rename_i d hdd
        have hmem : d ∈ oi.looksAt ops := List.mem_append_right _ (by simp [hg, hdd])
        rw [Option.map_eq_some_iff] at hw
        obtain ⟨b, hb, hbw⟩ := hw
        rw [List.getD_eq_getElem?_getD, ← aS d hmem, ← List.getD_eq_getElem?_getD] at hb
        have hsl := guard_slot hr hb
        have hy : yielded ops a.tmps j = some b := by simp [yielded, hdd, hsl]
        simp [Region.wanted, hg, hy, ← hbw]
      · cases hw
  unfold wpOp
  simp only [hi, hwant]
  have hupd := hstep.upd
  cases hwt : ri.want with
  | false =>
    simp only [Bool.false_eq_true, if_false]
    rcases hstep.2.2 with ⟨h, _⟩ | ⟨_, hv, hN, hW, _⟩
    · rw [hwt] at h; cases h
    · refine hK _ _ ⟨put_defers hd _ _, _, m, F, S, SR.put hr .junk oi.dst, hI, hkp, hc.add R hE hi hri hno (by rw [hv]) rfl (fun b => by simp [hW]), fun j rj hrj hwj hnj b hb => ?_⟩
      exact hnames j rj hrj hwj (fun h => hnj (.inl h)) b hb
  | true =>
    simp only [if_true]
    left
    rcases hstep.2.2 with ⟨_, ⟨v0, hop, hv⟩, hN, hW, _⟩ | ⟨h, _⟩
    case inr => rw [hwt] at h; cases h
    have eS : restrS (looks oi) 0 (st i).1 = restrS (looks oi) 0 s := by
      apply List.ext_getElem?
      intro t
      rw [restrS_get, restrS_get, Nat.zero_add]
      cases hh : has t (looks oi) with
      | true =>
        have : t ∈ oi.looksAt ops := by
          have h1 := has_iff.1 hh
          refine List.mem_append_left _ ?_
          unfold looks at h1
          rw [List.mem_filterMap] at h1 ⊢
          obtain ⟨x, hx, hxt⟩ := h1
          refine ⟨x, hx, ?_⟩
          cases x <;> simp_all
        rw [aS t this]
      | false =>
        rcases Nat.lt_or_ge t s.length with h | h
        · rw [List.getElem?_eq_getElem h, List.getElem?_eq_getElem (by omega : t < (st i).1.length)]
          rfl
        · rw [List.getElem?_eq_none h, List.getElem?_eq_none (by omega : (st i).1.length ≤ t)]
    have eM : restrM ri.N 0 (st i).2 = restrM ri.N 0 m := by
      apply List.ext_getElem?
      intro t
      rw [restrM_get, restrM_get, Nat.zero_add]
      cases hh : has t ri.N with
      | true => rw [aM t (has_iff.1 hh)]
      | false =>
        rcases Nat.lt_or_ge t m.length with h | h
        · rw [List.getElem?_eq_getElem h, List.getElem?_eq_getElem (by omega : t < (st i).2.length)]
          rfl
        · rw [List.getElem?_eq_none h, List.getElem?_eq_none (by omega : (st i).2.length ≤ t)]
    rw [eS, eM] at hop
    have hseqdead : ∀ b ∈ res base i, (st i).2[b]? = some .dead := by
      intro b hb
      simp only [res, List.mem_cons, List.not_mem_nil, or_false] at hb
      rw [q4, lastw_none]
      · exact R.dead b (by omega) (by omega)
      · rintro k hk _ ⟨_, rk, hrk, hbk⟩
        have hok : ops[k]? = some ops[k] := Array.getElem?_eq_getElem (by omega)
        obtain ⟨rk2, hrk2, hstk⟩ := R.step k _ hok
        rw [hrk] at hrk2
        cases hrk2
        have := hstk.bound b (hstk.sub b hbk)
        omega
    have hresN : ∀ b ∈ res base i, b ∈ ri.N := fun b hb => by rw [hN]; exact List.mem_append_right _ hb
    have hat : AtOk (some (res base i)) F (restrM ri.N 0 m) := by
      intro l hl
      cases hl
      refine ⟨by simp [res], fun b hb => ⟨?_, hnames i ri hri hwt hno b hb⟩⟩
      rw [restrM_get, Nat.zero_add, has_iff.2 (hresN b hb), aM b (hresN b hb), hseqdead b hb]
      rfl
    refine opV_sound (K := K0) hτ hΓ (hI.restr ri.N) hat (hr.restr _) hop ?_
    intro v1 u m1 F' S' w' hv1 hI' hk' hK1
    cases hK1
    have hgl := hI.glue (N := ri.N) (W := ri.W) (fun b hb => by have := hstep.bound b hb; omega) hstep.sub hI' hk' (fun b hb hbw => by
      rw [hN] at hb
      rcases List.mem_append.1 hb with hb' | hb'
      · have hb2 := (List.mem_filter.1 hb').2
        simp only [Bool.and_eq_true] at hb2
        have hblt : b < base + 2 * i := by simpa [Nat.blt_eq] using hb2.1
        have hbm : b < m.length := by omega
        have hbN : b ∈ ri.N := by rw [hN]; exact hb
        have hmb : m[b]? = some m[b] := List.getElem?_eq_getElem hbm
        have hstb : (st i).2[b]? = some m[b] := by rw [← aM b hbN]; exact hmb
        have hgd : (st i).2.getD b .dead = m[b] := by rw [List.getD_eq_getElem?_getD, hstb]; rfl
        refine ⟨m[b], hmb, ?_, ?_⟩
        · intro e
          rw [hgd, e] at hb2
          simp [Blk.isDead] at hb2
        · cases hrd : reader oi.op with
          | true =>
            right
            have := reader_mem hrd hop b (by omega)
            rw [this, restrM_get, Nat.zero_add, has_iff.2 hbN, hmb]
            rfl
          | false =>
            left
            intro p hp
            refine hbw ?_
            rw [hW]
            refine List.mem_append_left _ ?_
            unfold footW
            simp only [hrd, cond_false]
            refine List.mem_filter.2 ⟨hb', ?_⟩
            rw [hgd]
            generalize m[b] = x at hp
            cases x <;> first | rfl | exact hp.elim
      · exact (hbw (by rw [hW]; exact List.mem_append_right _ hb')).elim)
    obtain ⟨g1, g2, g3⟩ := hgl
    refine hK _ _ ⟨put_defers hd _ _, _, _, _, S', SR.put (VReps.keep g2 hr) (by rw [hv]; exact hv1.ren g3 : VRep _ S' w' ri.v u) oi.dst, g1, hkp.trans g2, hc.add R hE hi hri hno rfl (mergeM_len _ _ _ _ _) (merge_get _ _ _ _), fun j rj hrj hwj hnj b hb => ?_⟩
    have hEj : ¬ E j := fun h => hnj (.inl h)
    have hji : j ≠ i := fun h => hnj (.inr h)
    have hbN : b ∉ ri.N := by
      intro hbN
      have hbd := hstep.bound b hbN
      have hbr := hb
      simp only [res, List.mem_cons, List.not_mem_nil, or_false] at hbr
      rcases Nat.lt_or_gt_of_ne hji with h | h
      · have hoj : ops[j]? = some ops[j] := Array.getElem?_eq_getElem (by omega)
        rcases R.pair hi hoj hri hrj h with h1 | ⟨_, h2, _⟩
        · exact hEj (anc_down hE hi hready hlt h1)
        · obtain ⟨rj2, hrj2, hstj⟩ := R.step j _ hoj
          rw [hrj] at hrj2
          cases hrj2
          rcases hstj.2.2 with ⟨_, _, _, hWj, _⟩ | ⟨h4, _⟩
          · exact h2 b (by rw [hWj]; exact List.mem_append_right _ hb) hbN
          · rw [hwj] at h4; cases h4
      · omega
    show (if b ∈ ri.N then F' b else F b) = none
    rw [if_neg hbN]
    exact hnames j rj hrj hwj hEj b hb
/-! ## all orders -/
theorem getD_set {listed : Array Bool} {i j : Nat} (hi : i < listed.size) : ((listed.setIfInBounds i true).getD j false = true) ↔ (listed.getD j false = true ∨ j = i) := by
  by_cases h : i = j
  · subst h; simp [hi]
  · rw [getD_set_ne false h]
    exact ⟨fun h2 => .inl h2, fun h2 => h2.elim id (fun e => absurd e.symm h)⟩
def unl (listed : Array Bool) (n : Nat) : Nat := ((List.range n).filter fun i => !listed.getD i false).length
theorem filter_lt {α : Type} {p q : α → Bool} : ∀ {l : List α} {x : α}, (∀ y, p y = true → q y = true) → x ∈ l → q x = true → p x = false → (l.filter p).length < (l.filter q).length
  | y :: l, x, h, hx, hq, hp => by
    have hle : ∀ l : List α, (l.filter p).length ≤ (l.filter q).length := by
      intro l
      induction l with
      | nil => simp
      | cons z l ih =>
        simp only [List.filter_cons]
        cases hz : p z with
        | true => simp [h z hz, ih]
        | false => cases hz' : q z <;> simp <;> omega
    simp only [List.filter_cons]
    rcases List.mem_cons.1 hx with rfl | hx
    · simp only [hp, hq, if_true, Bool.false_eq_true, if_false, List.length_cons]
      have := hle l
      omega
    · have ih := filter_lt h hx hq hp
      cases hz : p y with
      | true => simp [h y hz, ih]
      | false => cases hz' : q y <;> simp <;> omega
theorem draw_any (hτ : TOK P τ) (hΓ : GamOk P Γ) (R : Run τ Γ ops base rs st) {Q : Exit → Act → World → Prop} (hQ : ∀ s m a w, St w0 O FB SB wB s m a w → s = (st ops.size).1 → m = (st ops.size).2 → Q .normal a w) :
    ∀ (fuel : Nat) (listed : Array Bool) (a : Act) (w : World), listed.size = ops.size → unl listed ops.size ≤ fuel → Down ops (fun i => listed.getD i false = true) → DSt ops base rs st w0 O FB SB wB (fun i => listed.getD i false = true) a w → wpAny P .any ops Q fuel listed a w := by
  -- when none is ready all are done
  have done_ : ∀ (listed : Array Bool) (a : Act) (w : World), listed.size = ops.size → DSt ops base rs st w0 O FB SB wB (fun i => listed.getD i false = true) a w → Region.ready .any ops listed = [] → Q .normal a w := by
    intro listed a w hsz hs hr
    have hall : ∀ i, i < ops.size → listed.getD i false = true := by
      intro i
      induction i using Nat.strongRecOn with
      | ind i ih =>
        intro hi
        cases hl : listed.getD i false with
        | true => rfl
        | false =>
          have ho : ops[i]? = some ops[i] := Array.getElem?_eq_getElem hi
          have : i ∈ Region.ready .any ops listed := by
            rw [mem_ready]
            refine ⟨?_, _, ho, fun e he hb => ?_⟩
            · have : i < listed.size := by omega
              simp only [Array.getD_eq_getD_getElem?, Array.getElem?_eq_getElem this, Option.getD_some] at hl ⊢
              exact hl
            · have hb' := R.back
              unfold backs at hb'
              rw [List.all_eq_true] at hb'
              have h1 := hb' i (by simpa using hi)
              rw [ho] at h1
              simp only [List.all_eq_true] at h1
              have h2 := h1 e (by simpa using he)
              rw [hb] at h2
              have hlt : e.on < i := by simpa [Nat.blt_eq] using h2
              exact ih e.on hlt (by omega)
          rw [hr] at this
          cases this
    obtain ⟨hd, s, m, F, S, h1, h2, h3, h4, _⟩ := hs
    obtain ⟨q1, q2, q3, q4⟩ := R.seq ops.size (Nat.le_refl _)
    refine hQ s m a w ⟨hd, F, S, h1, h2, h3⟩ ?_ ?_
    · apply List.ext_getElem?
      intro t
      rw [h4.sg, q2]
      exact lastw_all hall
    · apply List.ext_getElem?
      intro t
      rw [h4.mg, q4]
      exact lastw_all hall
  intro fuel
  induction fuel with
  | zero =>
    intro listed a w hsz hu hE hs
    have hr : Region.ready .any ops listed = [] := by
      cases hr : Region.ready .any ops listed with
      | nil => rfl
      | cons i l =>
        exfalso
        have hi : i ∈ Region.ready .any ops listed := by rw [hr]; simp
        rw [mem_ready] at hi
        obtain ⟨hl, o, ho, _⟩ := hi
        have hlt := (Array.getElem?_eq_some_iff.1 ho).1
        have hlf : listed.getD i false = false := by
          have : i < listed.size := by omega
          simp only [Array.getD_eq_getD_getElem?, Array.getElem?_eq_getElem this, Option.getD_some] at hl ⊢
          exact hl
        have : i ∈ (List.range ops.size).filter fun i => !listed.getD i false := List.mem_filter.2 ⟨by simpa using hlt, by rw [hlf]; rfl⟩
        unfold unl at hu
        rw [List.length_eq_zero_iff.1 (Nat.le_zero.1 hu)] at this
        cases this
    exact ⟨hr, done_ listed a w hsz hs hr⟩
  | succ fuel ih =>
    intro listed a w hsz hu hE hs
    refine ⟨done_ listed a w hsz hs, fun i hi => ?_⟩
    rw [mem_ready] at hi
    obtain ⟨hl, o, ho, hre⟩ := hi
    have hlt := (Array.getElem?_eq_some_iff.1 ho).1
    have hlf : listed.getD i false = false := by
      have : i < listed.size := by omega
      simp only [Array.getD_eq_getD_getElem?, Array.getElem?_eq_getElem this, Option.getD_some] at hl ⊢
      exact hl
    have hEi : (fun j => (listed.setIfInBounds i true).getD j false = true) = fun j => (listed.getD j false = true) ∨ j = i := funext fun j => propext (getD_set (by omega))
    refine draw_exec hτ hΓ R hE ho (by simp [hlf]) hre hs fun a' w' hs' => ?_
    refine ih _ a' w' (by simpa using hsz) ?_ ?_ (by rw [hEi]; exact hs')
    · have : unl (listed.setIfInBounds i true) ops.size < unl listed ops.size := by
        refine filter_lt (x := i) (fun y hy => ?_) (by simpa using hlt) (by rw [hlf]; rfl) ?_
        · cases hy' : listed.getD y false with
          | false => rfl
          | true =>
            have := (getD_set (j := y) (by omega : i < listed.size)).2 (.inl hy')
            rw [this] at hy
            cases hy
        · have := (getD_set (j := i) (by omega : i < listed.size)).2 (.inr rfl)
          rw [this]
          rfl
      omega
    · rw [hEi]
      intro j oj hoj hj e he hb
      rcases hj with hj | rfl
      · exact .inl (hE j oj hoj hj e he hb)
      · rw [ho] at hoj
        cases hoj
        exact .inl (hre e he hb)
end
end Go.Vi
