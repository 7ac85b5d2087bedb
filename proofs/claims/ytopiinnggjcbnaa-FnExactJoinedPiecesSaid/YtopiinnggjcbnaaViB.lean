/- Vi, part B: our own text, the same for every seat: a verified evaluator of the code over typed data. -/
import Derived.Test.YtopiinnggjcbnaaViA
import Derived.Maps.AppendAt
import Derived.Great.FillDense
import Derived.Great.BuildSlice
import Derived.Lib.AppendStr
import Derived.Laws.IdiomStrings
import Derived.Laws.Slices
/-
  Vi, part 9: slices: what is taken as data, literals, make, append.
-/
namespace Go.Vi
open Go
section
variable {R : Type} {F : Nat → Option Pl} {S : Nat → Prop} {w w0 : World} {O : Nat → Prop} {m : Mem} {P : Program} {τ : Tau}
/-- cells, element by element -/
def RowC (S : Nat → Prop) (w : World) (e : Ty) (xs : List e.D) (cells : List Value) : Prop :=
  cells.length = xs.length * e.sz ∧ ∀ (i : Nat) x, xs[i]? = some x → ∃ ec, RepD S w e x ec ∧ ∀ (j : Nat) v, ec[j]? = some v → cells[i * e.sz + j]? = some v
theorem RowC.nil {e : Ty} : RowC S w e [] [] := ⟨by simp, fun i x h => by simp at h⟩
theorem elem_lt {i n z j : Nat} (hi : i < n) (hj : j < z) : i * z + j < n * z := by
  have := Nat.mul_le_mul_right z hi
  rw [Nat.succ_mul] at this
  omega
theorem RepD.lt {e : Ty} {x : e.D} {ec : List Value} (h : RepD S w e x ec) {j : Nat} {v : Value} (hv : ec[j]? = some v) : j < e.sz := by
  have := h.len
  have := (List.getElem?_eq_some_iff.1 hv).1
  omega
theorem RowC.append {e : Ty} {xs ys : List e.D} {c d : List Value} (h : RowC S w e xs c) (k : RowC S w e ys d) : RowC S w e (xs ++ ys) (c ++ d) := by
  refine ⟨by simp [h.1, k.1, Nat.add_mul], fun i x hx => ?_⟩
  by_cases hi : i < xs.length
  · rw [List.getElem?_append_left hi] at hx
    obtain ⟨ec, hd, hc⟩ := h.2 i x hx
    refine ⟨ec, hd, fun j v hv => ?_⟩
    rw [List.getElem?_append_left (by rw [h.1]; exact elem_lt hi (hd.lt hv))]
    exact hc j v hv
  · rw [List.getElem?_append_right (by omega)] at hx
    obtain ⟨ec, hd, hc⟩ := k.2 _ x hx
    refine ⟨ec, hd, fun j v hv => ?_⟩
    have h2 : (i - xs.length) * e.sz + xs.length * e.sz = i * e.sz := by rw [← Nat.add_mul]; congr 1; omega
    rw [List.getElem?_append_right (by rw [h.1]; omega), h.1, show i * e.sz + j - xs.length * e.sz = (i - xs.length) * e.sz + j by omega]
    exact hc j v hv
theorem RowC.one {e : Ty} {x : e.D} {ec : List Value} (h : RepD S w e x ec) : RowC S w e [x] ec := by
  refine ⟨by simp [h.len], fun i y hy => ?_⟩
  cases i with
  | zero => simp at hy; subst hy; exact ⟨ec, h, fun j v hv => by simpa using hv⟩
  | succ i => simp at hy
theorem RowC.keep {S' : Nat → Prop} {w' : World} (hS : ∀ g, S g → S' g) (hw : ∀ g, S g → w'.heap[g]? = w.heap[g]?) {e : Ty} {xs : List e.D} {c : List Value} (h : RowC S w e xs c) : RowC S' w' e xs c :=
  ⟨h.1, fun i x hx => by obtain ⟨ec, hd, hc⟩ := h.2 i x hx; exact ⟨ec, hd.keep hS hw, hc⟩⟩
theorem RowC.ones {e : Ty} {xs : List e.D} {c : List Value} (h : RowC S w e xs c) : ∀ u ∈ c, u.oneCell' = true := by
  intro u hu
  obtain ⟨k, hk, rfl⟩ := List.getElem_of_mem hu
  have hz : 0 < e.sz := by
    rcases Nat.eq_zero_or_pos e.sz with h0 | h0
    · have := h.1; rw [h0] at this; simp at this; subst this; simp at hk
    · exact h0
  have hi : k / e.sz < xs.length := by
    rw [Nat.div_lt_iff_lt_mul hz]; rw [← h.1]; exact hk
  obtain ⟨ec, hd, hc⟩ := h.2 (k / e.sz) _ (List.getElem?_eq_getElem hi)
  have hm : k % e.sz < ec.length := by rw [hd.len]; exact Nat.mod_lt _ hz
  have h1 := hc (k % e.sz) _ (List.getElem?_eq_getElem hm)
  rw [Nat.div_add_mod' k e.sz, List.getElem?_eq_getElem hk] at h1
  rw [Option.some.inj h1]
  exact hd.one _ (List.getElem_mem hm)
/-- a new row of one's own -/
theorem rowR_new {e : Ty} {xs : List e.D} {cells : List Value} {te : TypeId} {F' : Nat → Option Pl} (a : Option TypeId) (h : RowC S w e xs cells) (extra : List Value) (cap : Nat) (hc : xs.length ≤ cap) (hm : a ≠ none → cap ≤ maxLen) (hl : (cells ++ extra).length = cap * e.sz) (hS : ∀ g, S g → g < w.heap.size) (ha : ∀ t, a = some t → t = te) :
    BRep F' S (w.alloc (.cells (cells ++ extra).toArray te)) ⟨w.heap.size, 0, cap, e.sz, xs.length⟩ (.row e xs a) := by
  refine ⟨rfl, ⟨rfl, hc⟩, hm, fun _ => ⟨_, te, (0, 0), heap_alloc_new w _, .inl rfl, ?_, fun i x hx => ?_, fun t ht => ⟨rfl, (ha t ht).symm, rfl, ?_⟩⟩⟩
  · show 0 + cap * e.sz ≤ (cells ++ extra).toArray.size
    simp only [List.size_toArray, hl]
    omega
  · obtain ⟨ec, hd, hcell⟩ := h.2 i x hx
    have hi : i < xs.length := (List.getElem?_eq_some_iff.1 hx).1
    refine ⟨ec, hd.keep (fun _ h => h) (fun g hg => heap_alloc_old w _ g (hS g hg)), fun j v hv => ?_⟩
    have := hcell j v hv
    simp only [Nat.zero_add, List.getElem?_toArray]
    rw [List.getElem?_append_left (by rw [h.1]; exact elem_lt hi (hd.lt hv))]
    exact this
  · simp only [List.size_toArray, hl]
theorem pre_len {α : Type} {xs : List α} {n : Option Int} {l : Nat} (h : match n with | none => l = xs.length | some n => 0 ≤ n ∧ n ≤ xs.length ∧ l = n.toNat) : (pre xs n).length = l := by
  cases n with
  | none => exact h.symm
  | some n => simp only [pre, List.length_take]; obtain ⟨h0, h1, rfl⟩ := h; omega
theorem pre_get {α : Type} {xs : List α} {n : Option Int} {i : Nat} {x : α} (h : (pre xs n)[i]? = some x) : xs[i]? = some x := by
  cases n with
  | none => exact h
  | some n => simp only [pre, List.getElem?_take] at h; split at h <;> simp_all
theorem takeC_sound (hI : Inv w0 O F S w m) {v : V} {u : Value} (h : VRep F S w v u) : ∃ S', Inv w0 O F S' w (takeC m v).2 ∧ Keep F S w F S' w ∧ VRep F S' w (takeC m v).1 u := by
  unfold takeC
  split
  · rename_i b n
    obtain ⟨p, a, l, hf, hn, ha, rfl⟩ := h.own_inv
    split
    · rename_i e xs q hm
      obtain ⟨h2, k2⟩ := hI.freeze hm hf
      have hlt : b < m.length := (List.getElem?_eq_some_iff.1 hm).1
      obtain ⟨hz, ⟨hl, hc⟩, hr⟩ := h2.blk b (.frz e xs) p (by rw [List.getElem?_set_self hlt]) hf
      refine ⟨_, h2, k2, ?_⟩
      have hpl : (pre xs n).length = l := pre_len (by rw [← hl]; exact hn)
      rw [← hpl]
      refine .sl (by rw [hpl]; cases n <;> simp at hn <;> omega) ?_
      by_cases h0 : pre xs n = []
      · exact .inl h0
      · right
        have : 0 < (pre xs n).length := List.length_pos_iff.2 h0
        have hcap : 0 < p.cap := by rw [hpl] at this; cases n <;> simp at hn <;> omega
        obtain ⟨s1, s2⟩ := hr hcap
        exact ⟨p.g, p.o, ha hcap, s1, fun i x hx => s2 i x (pre_get hx)⟩
    · rename_i e xs hm
      obtain ⟨hz, ⟨hl, hc⟩, hr⟩ := hI.blk b _ p hm hf
      refine ⟨S, hI, .refl _ _ _, ?_⟩
      have hpl : (pre xs n).length = l := pre_len (by rw [← hl]; exact hn)
      rw [← hpl]
      refine .sl (by rw [hpl]; cases n <;> simp at hn <;> omega) ?_
      by_cases h0 : pre xs n = []
      · exact .inl h0
      · right
        have : 0 < (pre xs n).length := List.length_pos_iff.2 h0
        have hcap : 0 < p.cap := by rw [hpl] at this; cases n <;> simp at hn <;> omega
        obtain ⟨s1, s2⟩ := hr hcap
        exact ⟨p.g, p.o, ha hcap, s1, fun i x hx => s2 i x (pre_get hx)⟩
    · exact ⟨S, hI, .refl _ _ _, h⟩
  · exact ⟨S, hI, .refl _ _ _, h⟩
theorem takeCs_sound : ∀ {vs : List V} {us : List Value} {S : Nat → Prop} {m : Mem}, Inv w0 O F S w m → VReps F S w vs us → ∃ S', Inv w0 O F S' w (takeCs m vs).2 ∧ Keep F S w F S' w ∧ VReps F S' w (takeCs m vs).1 us
  | [], us, S, m, hI, h => ⟨S, hI, .refl _ _ _, h⟩
  | v :: vs, us, S, m, hI, h => by
    obtain ⟨u, us', rfl, h0, h1⟩ := h.head
    obtain ⟨S1, i1, k1, r1⟩ := takeC_sound hI h0
    obtain ⟨S2, i2, k2, r2⟩ := takeCs_sound i1 (h1.keep k1)
    exact ⟨S2, i2, k1.trans k2, .cons (r1.keep k2) r2⟩
theorem takeV_sound (hI : Inv w0 O F S w m) {v : V} {u : Value} (h : VRep F S w v u) : ∃ S', Inv w0 O F S' w (takeV m v).2 ∧ Keep F S w F S' w ∧ VRep F S' w (takeV m v).1 u := by
  unfold takeV
  split
  · obtain ⟨us, rfl, hr, h1⟩ := h.agg_inv
    obtain ⟨S1, i1, k1, r1⟩ := takeCs_sound hI hr
    exact ⟨S1, i1, k1, by simpa using VRep.of_agg r1 (fun c hc => h1 c (by simpa using hc))⟩
  · exact takeC_sound hI h
theorem takeAll_sound {e : Ty} : ∀ {vs : List V} {us : List Value} {S : Nat → Prop} {m m' : Mem} {xs : List e.D}, Inv w0 O F S w m → VReps F S w vs us → takeAll e m vs = some (xs, m') →
    ∃ S', Inv w0 O F S' w m' ∧ Keep F S w F S' w ∧ xs.length = us.length ∧ RowC S' w e xs (us.flatMap fun u => u.cells.toList) ∧ ∀ u ∈ us, u.cells.size = e.sz
  | [], us, S, m, m', xs, hI, h, ht => by
    simp only [takeAll, Option.some.injEq, Prod.mk.injEq] at ht
    obtain ⟨rfl, rfl⟩ := ht
    rw [h.nil_inv]
    exact ⟨S, hI, .refl _ _ _, rfl, .nil, by simp⟩
  | v :: vs, us, S, m, m', xs, hI, h, ht => by
    obtain ⟨u, us', rfl, h0, h1⟩ := h.head
    obtain ⟨S1, i1, k1, r1⟩ := takeV_sound hI h0
    simp only [takeAll] at ht
    split at ht
    · cases ht
    · rename_i x hx
      split at ht
      · cases ht
      · rename_i ys m2 h2
        simp only [Option.some.injEq, Prod.mk.injEq] at ht
        obtain ⟨rfl, rfl⟩ := ht
        obtain ⟨S2, i2, k2, hl, hc, hsz⟩ := takeAll_sound i1 (h1.keep k1) h2
        have hd := (rd_rep r1 hx).keep k2.s k2.h
        refine ⟨S2, i2, k1.trans k2, by simp [hl], ?_, ?_⟩
        · have := (RowC.one hd).append hc
          simpa using this
        · intro y hy
          rcases List.mem_cons.1 hy with rfl | hy
          · simpa using hd.len
          · exact hsz y hy
end
end Go.Vi

/-
  Vi, part 10: literals of slices, make, append.
-/
namespace Go.Vi
open Go
section
variable {R : Type} {F : Nat → Option Pl} {S : Nat → Prop} {w w0 : World} {O : Nat → Prop} {m : Mem} {P : Program} {τ : Tau}
theorem iota_zip {α β : Type} (l : List (Nat × α)) (f : α → β) (n : Nat) (h : l.map (·.1) = List.range n) : (l.map fun p => (p.1, f p.2)) = (((l.map fun p => f p.2).zipIdx 0).map fun x => (x.2, x.1)) := by
  apply List.ext_getElem?
  intro i
  simp only [List.getElem?_map, List.getElem?_zipIdx]
  cases hi : l[i]? with
  | none => simp
  | some p =>
    have h2 : (l.map (·.1))[i]? = some p.1 := by simp [hi]
    rw [h, List.getElem?_range (by have := (List.getElem?_eq_some_iff.1 hi).1; have h3 : (l.map (·.1)).length = n := by rw [h]; simp
                                   simp at h3; omega)] at h2
    simp at h2
    simp [h2]
theorem cellsOf_inv : ∀ {t : Ty} {x : t.D} {us : List Value}, VReps F S w (cellsOf t x) us → RepD S w t x us
  | .int k, x, us, h => by
    obtain ⟨u, us', rfl, h0, h1⟩ := VReps.head (vs := []) h
    rw [h1.nil_inv, h0.int_inv]; rfl
  | .bool, x, us, h => by
    obtain ⟨u, us', rfl, h0, h1⟩ := VReps.head (vs := []) h
    rw [h1.nil_inv, h0.bool_inv]; rfl
  | .str, x, us, h => by
    obtain ⟨u, us', rfl, h0, h1⟩ := VReps.head (vs := []) h
    rw [h1.nil_inv, h0.str_inv]; rfl
  | .unit, x, us, h => h.nil_inv
  | .sl e, x, us, h => by
    obtain ⟨u, us', rfl, h0, h1⟩ := VReps.head (vs := []) h
    obtain ⟨a, cap, rfl, hl, h2⟩ := h0.sl_inv
    rw [h1.nil_inv]
    simp only [RepD]
    exact ⟨a, cap, rfl, hl, h2⟩
  | .pair a b, x, us, h => by
    simp only [RepD]
    have h1 := h.take (cellsOf a x.1).length
    have h2 := h.drop (cellsOf a x.1).length
    simp only [cellsOf, List.take_left, List.drop_left] at h1 h2
    exact ⟨_, _, (List.take_append_drop _ us).symm, cellsOf_inv h1, cellsOf_inv h2⟩
theorem elTy (hτ : TOK P τ) {te : TypeId} {e : Ty} (h : (τ te).ty = some e) : (τ te).known = true → e.sz = (τ te).sz ∧ 0 < e.sz ∧ ∃ i z, P.info? te = some i ∧ i.zero = some z ∧ i.size = e.sz ∧ i.bytes = (τ te).by_ ∧ z.cells.size = e.sz ∧ ∀ F S w, RepD S w e e.zero z.cells.toList ∧ VReps F S w (cellsOf e e.zero) z.cells.toList := by
  intro hn
  obtain ⟨h1, _, i, z, hi, hz, hzi⟩ := (hτ te hn).ty e h
  have hp := (hτ te hn).pos
  obtain ⟨i', hi', hs, hb⟩ := (hτ te hn).info
  rw [hi] at hi'
  cases hi'
  have hrep : ∀ F S w, VReps F S w (cellsOf e e.zero) z.cells.toList := fun F S w => (zeroIs_rep hzi).1
  have hcs : z.cells.size = e.sz := by
    have := (hrep (fun _ => none) (fun _ => True) default).len
    rw [cellsOf_len] at this
    simpa using this.symm
  exact ⟨h1, by omega, i, z, hi, hz, by omega, hb, hcs, fun F S w => ⟨cellsOf_inv (hrep F S w), hrep F S w⟩⟩
theorem takeC_dead {v : V} {i : Nat} (h : m[i]? = some .dead) : (takeC m v).2[i]? = some .dead := by
  unfold takeC
  split
  · rename_i b n
    split
    · rename_i hm
      have hne : b ≠ i := fun e => by subst e; rw [h] at hm; cases hm
      simpa [List.getElem?_set_ne hne] using h
    · exact h
    · exact h
  · exact h
theorem takeCs_dead {i : Nat} : ∀ {vs : List V} {m : Mem}, m[i]? = some .dead → (takeCs m vs).2[i]? = some .dead
  | [], _, h => h
  | v :: vs, m, h => by
    show (takeCs (takeC m v).2 vs).2[i]? = _
    exact takeCs_dead (takeC_dead h)
theorem takeV_dead {v : V} {i : Nat} (h : m[i]? = some .dead) : (takeV m v).2[i]? = some .dead := by
  unfold takeV
  split
  · exact takeCs_dead h
  · exact takeC_dead h
theorem takeAll_dead {e : Ty} {i : Nat} : ∀ {vs : List V} {m m' : Mem} {xs : List e.D}, takeAll e m vs = some (xs, m') → m[i]? = some .dead → m'[i]? = some .dead
  | [], m, m', xs, ht, h => by
    simp only [takeAll, Option.some.injEq, Prod.mk.injEq] at ht
    rw [← ht.2]; exact h
  | v :: vs, m, m', xs, ht, h => by
    simp only [takeAll] at ht
    split at ht
    · cases ht
    · split at ht
      · cases ht
      · rename_i h2
        simp only [Option.some.injEq, Prod.mk.injEq] at ht
        rw [← ht.2]
        exact takeAll_dead h2 (takeV_dead h)
theorem takeAll_at {L : At} (hL : AtOk L F m) {e : Ty} {vs : List V} {m' : Mem} {xs : List e.D} (h : takeAll e m vs = some (xs, m')) : AtOk L F m' :=
  fun l hl => ⟨(hL l hl).1, fun i hi => ⟨takeAll_dead h ((hL l hl).2 i hi).1, ((hL l hl).2 i hi).2⟩⟩
theorem buildSliceV_sound {L : At} (hτ : TOK P τ) (hI : Inv w0 O F S w m) (hL : AtOk L F m) {t : TypeId} {n : Nat} {parts : List (Nat × V)} {us : List (Nat × Value)} {K : V → Mem → Option R} {r : R} (hi : parts.map (·.1) = us.map (·.1)) (hv : VReps F S w (parts.map (·.2)) (us.map (·.2)))
    (h : buildSliceV τ L m t n parts K = some r) : Ends P w0 O F S w K r (Instr.buildSlice t n us.toArray) := by
  unfold buildSliceV at h
  split at h
  · rename_i te hk
    split at h
    · rename_i e hty
      replace h := ite_some h
      obtain ⟨⟨hkn, hio, hsm⟩, h⟩ := h
      split at h
      · rename_i xs m' ht
        have hu : P.underlying t = some (.slice te) := by have := (hτ t (known_of (by simp [hk]))).kind; rw [hk] at this; exact this
        obtain ⟨hes, hpos, i, z, hinfo, hz, hisz, _, hzc, _⟩ := elTy hτ hty hkn
        obtain ⟨S', i2, k2, hlen, hrc, hsz⟩ := takeAll_sound hI hv ht
        have hio' : us.map (·.1) = List.range n := by
          unfold iota at hio
          rw [← hi]
          simpa using hio
        have hn : us.length = n := by have := congrArg List.length hio'; simpa using this
        have hxs : xs.length = n := by rw [hlen]; simpa using hn
        have hcl : ((us.map (·.2)).flatMap fun u => u.cells.toList).length = n * e.sz := by rw [hrc.1, hxs]
        have hnew := rowR_new (F' := placeF F (lay L m' (.row e xs (some te))).1 ⟨w.heap.size, 0, n, e.sz, xs.length⟩) (te := te) (some te) hrc [] n (by omega) (fun _ => by simp only [maxLen]; have : n ≤ n * e.sz := Nat.le_mul_of_pos_right _ hpos; omega) (by rw [List.append_nil]; exact hcl) i2.sb (fun t ht => by cases ht; rfl)
        rw [List.append_nil] at hnew
        obtain ⟨h3, k3⟩ := i2.new (takeAll_at hL ht) _ te rfl hnew
        have hrun : (Instr.buildSlice t n us.toArray).run P w = .ok (.slice (some ⟨w.heap.size, 0, none⟩) n n) (w.alloc (.cells ((us.map (·.2)).flatMap fun u => u.cells.toList).toArray te)) := by
          rcases Nat.eq_zero_or_pos n with h0 | h0
          · subst h0
            have : us = [] := List.length_eq_zero_iff.1 hn
            subst this
            have hz0 := sizeOf_run hτ hkn w
            simp [Instr.buildSlice, run_underlying hu, hz0, newRow, Instr.fill, Array.range_zero']
          · have h24 : (2 : Nat) ^ 24 = 16777216 := by decide
            have c1 : ¬ n * i.size > 2 ^ 24 := by rw [hisz, h24]; omega
            have c2 : ¬ n * i.size = 0 := by rw [hisz]; exact Nat.ne_of_gt (Nat.mul_pos h0 hpos)
            refine run_buildSlice w t te n us.toArray _ i z hu hinfo hz c1 c2 ?_
            have hzip := iota_zip us (fun u => u) n hio'
            have e1 : us = ((us.map (·.2)).zipIdx 0).map fun x => (x.2, x.1) := by simpa using hzip
            rw [show us.toArray.toList = us from rfl, hisz]
            conv => lhs; rw [e1]
            exact Great.fill_whole hpos (us.map (·.2)) ((Array.range (n * e.sz)).map (z.cells[· % z.cells.size]!)) hsz (by simp [hn])
        exact ⟨_, _, _, _, S', _, hrun, .own (p := ⟨w.heap.size, 0, n, e.sz, xs.length⟩) (by simp [placeF]) (by simpa using hxs.symm) (fun _ => rfl), h3, k2.trans k3, h⟩
      · cases h
    · cases h
  · cases h
end
end Go.Vi

/-
  Vi, part 11: make, append.
-/
namespace Go.Vi
open Go
section
variable {R : Type} {F : Nat → Option Pl} {S : Nat → Prop} {w w0 : World} {O : Nat → Prop} {m : Mem} {P : Program} {τ : Tau}
theorem made_rows {e : Ty} {z : Array Value} (hz : z.size = e.sz) (hr : RepD S w e e.zero z.toList) (l : Nat) : RowC S w e (List.replicate l e.zero) ((List.range (l * e.sz)).map fun k => z[k % z.size]!) := by
  refine ⟨by simp, fun i x hx => ?_⟩
  have hi : i < l := by have := (List.getElem?_eq_some_iff.1 hx).1; simpa using this
  have hx' : x = e.zero := by
    rw [List.getElem?_replicate, if_pos hi] at hx
    exact (Option.some.inj hx).symm
  subst hx'
  refine ⟨z.toList, hr, fun j v hv => ?_⟩
  have hj := hr.lt hv
  rw [List.getElem?_map, List.getElem?_range (elem_lt hi hj)]
  simp only [Option.map_some, Option.some.injEq]
  rw [hz, Nat.mul_comm, Nat.mul_add_mod, Nat.mod_eq_of_lt hj]
  have : z[j]? = some v := by simpa using hv
  simp [getElem!_def, this]
theorem makeV_sound {L : At} (hτ : TOK P τ) (hI : Inv w0 O F S w m) (hL : AtOk L F m) {t : TypeId} {l c : V} {ul uc : Value} {K : V → Mem → Option R} {r : R} (hl : VRep F S w l ul) (hc : VRep F S w c uc) (h : makeV τ L m t l c K = some r) :
    Ends P w0 O F S w K r (Instr.makeSlice t ul uc) := by
  unfold makeV at h
  split at h
  · rename_i te kl l kc c hk
    obtain ⟨l, rfl⟩ : ∃ j : Int, j = l := ⟨l, rfl⟩
    obtain ⟨c, rfl⟩ : ∃ j : Int, j = c := ⟨c, rfl⟩
    split at h
    · rename_i e hty
      replace h := ite_some h
      obtain ⟨hkn, h⟩ := h
      replace h := chk_some h
      obtain ⟨hb, h⟩ := h
      simp only [Bool.and_eq_true, decide_eq_true_eq] at hb
      obtain ⟨⟨h0, h1⟩, h2⟩ := hb
      have hu : P.underlying t = some (.slice te) := by have := (hτ t (known_of (by simp [hk]))).kind; rw [hk] at this; exact this
      obtain ⟨hes, hpos, i, z, hinfo, hz, hisz, hby, hzc, hrep⟩ := elTy hτ hty hkn
      have hbp := (hτ te hkn).bpos
      rw [hl.int_inv, hc.int_inv]
      obtain ⟨ln, rfl⟩ := Int.eq_ofNat_of_zero_le h0
      obtain ⟨cn, rfl⟩ := Int.eq_ofNat_of_zero_le (Int.le_trans h0 h1)
      have h2' : cn * (τ te).by_ ≤ maxBytes := by
        have h3 : ((cn * (τ te).by_ : Nat) : Int) ≤ (maxBytes : Nat) := by rw [Int.natCast_mul]; exact h2
        exact Int.ofNat_le.1 h3
      have hcn : cn ≤ maxBytes := Nat.le_trans (Nat.le_mul_of_pos_right _ hbp) h2'
      have hmb : maxBytes = 70368744177664 := rfl
      have hbytes : (i.bytes : Int) * (cn : Int) ≤ 281474976710656 := by
        rw [hby, Int.mul_comm]
        have : ((cn * (τ te).by_ : Nat) : Int) ≤ 281474976710656 := by omega
        rwa [Int.natCast_mul] at this
      have hrun := run_make (P := P) w t te i z hu hinfo hz kl kc ln cn h0 h1 hbytes (by omega)
      have hln : ln ≤ cn := Int.ofNat_le.1 h1
      have hcells : madeCells z.cells (cn * i.size) = (((List.range (ln * e.sz)).map fun k => z.cells[k % z.cells.size]!) ++ ((List.range ((cn - ln) * e.sz)).map fun k => z.cells[(ln * e.sz + k) % z.cells.size]!)).toArray := by
        apply Array.ext'
        have hsplit : cn * e.sz = ln * e.sz + (cn - ln) * e.sz := by rw [← Nat.add_mul]; congr 1; omega
        simp only [madeCells, Array.toList_map, Array.toList_range, hisz]
        rw [hsplit, List.range_add, List.map_append, List.map_map]
        rfl
      simp only [Int.toNat_natCast] at hrun h
      rw [hcells] at hrun
      have hnew := rowR_new (F' := placeF F (lay L m (.row e (List.replicate ln e.zero) (some te))).1 ⟨w.heap.size, 0, cn, e.sz, (List.replicate ln e.zero).length⟩) (te := te) (some te) (made_rows hzc (hrep F S w).1 ln) ((List.range ((cn - ln) * e.sz)).map fun k => z.cells[(ln * e.sz + k) % z.cells.size]!) cn (by simpa using hln) (fun _ => by simp only [maxLen]; omega)
        (by simp; rw [← Nat.add_mul]; congr 1; omega) hI.sb (fun t ht => by cases ht; rfl)
      obtain ⟨h3, k3⟩ := hI.new hL _ te rfl hnew
      exact ⟨_, _, _, _, S, _, hrun, .own (p := ⟨w.heap.size, 0, cn, e.sz, (List.replicate ln e.zero).length⟩) (by simp [placeF]) (by simp) (fun _ => rfl), h3, k3, h⟩
    · cases h
  · cases h
end
end Go.Vi

/-
  Vi, part 12: append.
-/
namespace Go.Vi
open Go
section
variable {R : Type} {F : Nat → Option Pl} {S : Nat → Prop} {w w0 : World} {O : Nat → Prop} {m : Mem} {P : Program} {τ : Tau} {L : At}
theorem append_core {e : Ty} {te : TypeId} {v : Value} {n : Nat} {xs ys : List e.D} {cells news : List Value} {x : Sem Value} (hpos : 0 < e.sz) (hI : Inv w0 O F S w m) (hL : AtOk L F m)
    (hrow : ∀ g, v.ownBlock = some g → Free F m g ∧ ¬ S g ∧ (O g ∨ w0.heap.size ≤ g)) (hx : RowC S w e xs cells) (hy : RowC S w e ys news)
    (hrun : ∃ v' w', x.run P w = .ok v' w' ∧ w'.ownsRow 0 te e.sz v' n (cells ++ news) ∧ w.grownBy w' v.ownBlock ∧ (v'.ownBlock = v.ownBlock ∨ v'.ownBlock = some w.heap.size)) :
    ∃ v' F' w', x.run P w = .ok v' w' ∧ VRep F' S w' (.own (lay L m (.row e (xs ++ ys) (some te))).1 none) v' ∧ Inv w0 O F' S w' (lay L m (.row e (xs ++ ys) (some te))).2 ∧ Keep F S w F' S w' := by
  obtain ⟨v', w', hr, hown, hg, hat⟩ := hrun
  have hS : ∀ g, S g → w'.heap[g]? = w.heap[g]? := fun g hs => hg.block g (hI.sb g hs) (fun e => (hrow g e.symm).2.1 hs)
  have hhot : ∀ (b : Nat) y p, m[b]? = some y → F b = some p → y.hot p → w'.heap[p.g]? = w.heap[p.g]? := fun b y p hm hf hy => hg.block p.g (hI.out b y p hm hf hy).2.1 (fun e => (hrow p.g e.symm).1 b y p hm hf hy rfl)
  have hI2 : Inv w0 O F S w' m := hI.world hg.os hg.tape hg.output hg.size hS hhot (fun g hlt ho => hg.block g (Nat.lt_of_lt_of_le hlt hI.ext.size) (fun e => (hrow g e.symm).2.2.elim ho (fun h => by omega)))
  have k1 : Keep F S w F S w' := ⟨fun _ _ h => h, fun _ h => h, hS⟩
  obtain ⟨l1, l2, l3⟩ := lay_spec hL hI2 (.row e (xs ++ ys) (some te))
  have hall := (hx.append hy).keep (fun _ h => h) hS
  have hn : (xs ++ ys).length = n := by
    have h1 := hown.1
    rw [hall.1] at h1
    exact Nat.eq_of_mul_eq_mul_right hpos h1
  rcases hown.2 with ⟨rfl, h0⟩ | ⟨g, cap, cur, rfl, _, hh, hnc, hcm, hcs, htake⟩
  · have hnil : xs ++ ys = [] := List.length_eq_zero_iff.1 (by omega)
    obtain ⟨h2, k2⟩ := hI2.add (p := ⟨0, 0, 0, e.sz, n⟩) l1 l2 l3 (fun h => absurd h (by simp [Blk.hot])) (fun h => absurd h (by simp [Blk.hot])) ⟨rfl, ⟨hn.symm, by simp [hnil]⟩, fun _ => Nat.zero_le _, fun h => absurd h (by simp)⟩
    exact ⟨_, _, w', hr, .own (p := ⟨0, 0, 0, e.sz, n⟩) (by simp [placeF]) (by simp [h0]) (fun h => absurd h (by simp)), h2, k1.trans k2⟩
  · have hgl : g < w'.heap.size := (Array.getElem?_eq_some_iff.1 hh).1
    have hfree : Free F m g ∧ ¬ S g ∧ (O g ∨ w0.heap.size ≤ g) := by
      rcases hat with hat | hat
      · exact hrow g (by rw [← hat]; rfl)
      · simp [Value.ownBlock] at hat
        subst hat
        exact ⟨hI.free_new, fun hs => absurd (hI.sb _ hs) (by omega), .inr hI.ext.size⟩
    obtain ⟨h2, k2⟩ := hI2.add (p := ⟨g, 0, cap, e.sz, n⟩) l1 l2 l3 (fun _ => hfree.1) (fun _ => ⟨hfree.2.1, hgl, hfree.2.2⟩)
      ⟨rfl, ⟨hn.symm, by rw [hn]; exact hnc⟩, fun _ => hcm, fun _ => ⟨cur, te, (0, 0), hh, .inl rfl, by show 0 + cap * e.sz ≤ _; omega, fun i z hz => by
        obtain ⟨ec, hd, hc⟩ := hall.2 i z hz
        have hi : i < n := by rw [← hn]; exact (List.getElem?_eq_some_iff.1 hz).1
        refine ⟨ec, hd, fun j u hu => ?_⟩
        have := hc j u hu
        rw [← htake, List.getElem?_take, if_pos (elem_lt hi (hd.lt hu))] at this
        simpa using this, fun t ht => ⟨rfl, (Option.some.inj ht), rfl, hcs⟩⟩⟩
    exact ⟨_, _, w', hr, .own (p := ⟨g, 0, cap, e.sz, n⟩) (by simp [placeF]) rfl (fun _ => rfl), h2, k1.trans k2⟩
/-- the elements that a slice leads to -/
theorem elems_sound (hI : Inv w0 O F S w m) {y : V} {uy : Value} {e : Ty} {ys : List e.D} (hy : VRep F S w y uy) (h : elems m y = some ⟨e, ys⟩) :
    ∃ a cap, uy = .slice a ys.length cap ∧ ys.length ≤ cap ∧ (ys = [] ∨ ∃ g o news, a = some ⟨g, o, none⟩ ∧ RowC S w e ys news ∧ ∀ (j : Nat) u, news[j]? = some u → w.cell? ⟨g, o + j, none⟩ = some u) := by
  have key : ∀ {zs : List e.D} {g o : Nat}, (∀ (i : Nat) z, zs[i]? = some z → ∃ ec, RepD S w e z ec ∧ ∀ (j : Nat) v, ec[j]? = some v → w.cell? ⟨g, o + i * e.sz + j, none⟩ = some v) →
      ∃ news, RowC S w e zs news ∧ ∀ (j : Nat) u, news[j]? = some u → w.cell? ⟨g, o + j, none⟩ = some u := by
    intro zs g o hz
    have hcell : ∀ k, k < zs.length * e.sz → ∃ u, w.cell? ⟨g, o + k, none⟩ = some u := by
      intro k hk
      have hp : 0 < e.sz := by
        rcases Nat.eq_zero_or_pos e.sz with h0 | h0
        · rw [h0] at hk; omega
        · exact h0
      have hi : k / e.sz < zs.length := by rw [Nat.div_lt_iff_lt_mul hp]; exact hk
      obtain ⟨ec, hd, hc⟩ := hz (k / e.sz) _ (List.getElem?_eq_getElem hi)
      have hm : k % e.sz < ec.length := by rw [hd.len]; exact Nat.mod_lt _ hp
      have := hc _ _ (List.getElem?_eq_getElem hm)
      rw [Nat.add_assoc, Nat.div_add_mod' k e.sz] at this
      exact ⟨_, this⟩
    refine ⟨(List.range (zs.length * e.sz)).map fun k => (w.cell? ⟨g, o + k, none⟩).getD undef, ⟨by simp, fun i z hi => ?_⟩, fun j u hu => ?_⟩
    · obtain ⟨ec, hd, hc⟩ := hz i z hi
      refine ⟨ec, hd, fun j v hv => ?_⟩
      have hlt : i * e.sz + j < zs.length * e.sz := elem_lt (List.getElem?_eq_some_iff.1 hi).1 (hd.lt hv)
      have := hc j v hv
      rw [Nat.add_assoc] at this
      rw [List.getElem?_map, List.getElem?_range hlt]
      simp [this]
    · have hlt : j < zs.length * e.sz := by have := (List.getElem?_eq_some_iff.1 hu).1; simpa using this
      obtain ⟨u', hu'⟩ := hcell j hlt
      rw [List.getElem?_map, List.getElem?_range hlt] at hu
      simp [hu'] at hu
      rw [hu', hu]
  unfold elems at h
  split at h
  · rename_i e' xs
    cases h
    obtain ⟨a, cap, rfl, hc, hr⟩ := hy.sl_inv
    refine ⟨a, cap, rfl, hc, hr.imp id ?_⟩
    rintro ⟨g, o, rfl, hr2⟩
    obtain ⟨news, h1, h2⟩ := key hr2.2
    exact ⟨g, o, news, rfl, h1, h2⟩
  · rename_i b n
    obtain ⟨p, a, l, hf, hn, ha, rfl⟩ := hy.own_inv
    have fin : ∀ (e' : Ty) (xs : List e'.D), p.len = xs.length → xs.length ≤ p.cap → (0 < p.cap → ∀ (i : Nat) z, xs[i]? = some z → ∃ ec, RepD S w e' z ec ∧ ∀ (j : Nat) v, ec[j]? = some v → w.cell? ⟨p.g, p.o + i * e'.sz + j, none⟩ = some v) → (some ⟨e', pre xs n⟩ : Option (Σ e : Ty, List e.D)) = some ⟨e, ys⟩ →
        ∃ a' cap, Value.slice a l p.cap = .slice a' ys.length cap ∧ ys.length ≤ cap ∧ (ys = [] ∨ ∃ g o news, a' = some ⟨g, o, none⟩ ∧ RowC S w e ys news ∧ ∀ (j : Nat) u, news[j]? = some u → w.cell? ⟨g, o + j, none⟩ = some u) := by
      intro e' xs hl hc hr he
      cases he
      have hpl : (pre xs n).length = l := pre_len (by rw [← hl]; exact hn)
      have hle : l ≤ xs.length := by rw [← hpl]; cases n <;> simp [pre]; omega
      refine ⟨a, p.cap, by rw [hpl], by omega, ?_⟩
      by_cases h0 : pre xs n = []
      · exact .inl h0
      · right
        have : 0 < (pre xs n).length := List.length_pos_iff.2 h0
        have hcap : 0 < p.cap := by omega
        obtain ⟨news, h1, h2⟩ := key (zs := pre xs n) (fun i z hz => hr hcap i z (pre_get hz))
        exact ⟨p.g, p.o, news, ha hcap, h1, h2⟩
    split at h
    · rename_i e' xs q hm
      obtain ⟨hz, ⟨hl, hc⟩, _, hr⟩ := hI.blk b _ p hm hf
      refine fin e' xs hl hc (fun hcap i z hz => ?_) h
      obtain ⟨arr, T, fr, hh, _, hs, hel, _⟩ := hr hcap
      obtain ⟨ec, hd, hcell⟩ := hel i z hz
      exact ⟨ec, hd, fun j v hv => by rw [cell_of_row w _ _ arr T fr hh]; exact hcell j v hv⟩
    · rename_i e' xs hm
      obtain ⟨hz, ⟨hl, hc⟩, hr⟩ := hI.blk b _ p hm hf
      exact fin e' xs hl hc (fun hcap => (hr hcap).2) h
    · cases h
  · cases h
/-- nothing is appended -/
theorem append_none {t te : TypeId} {z : Nat} (ht : P.underlying t = some (.slice te)) (hz : (sizeOf te).run P w = .ok z w) {a b : Option Addr} {l c c' : Nat} (h : l ≤ c) (ty : TypeId) :
    (Builtin.append_ #[t, t] ty #[.slice a l c, .slice b 0 c']).run P w = .ok (.slice a l c) w := by
  cases a <;> cases b <;> simp [Builtin.append_, run_underlying ht, hz, Builtin.lenOf, Builtin.firstCells, h, loadCells, loadCellsFrom, storeCells]
/-- a slice without room is as nil -/
theorem append_noroom_str {t t' te : TypeId} {i : TypeInfo} (ht : P.underlying t = some (.slice te)) (hu : P.underlying t' = some .string) (hi : P.info? te = some i) (hb1 : i.bytes = 1) {a : Option Addr} {s : ByteArray} (hb : s.size ≤ 281474976710656) (ty : TypeId) (h : 0 < s.size) :
    (Builtin.append_ #[t, t'] ty #[.slice a 0 0, .string s]).run P w = (Builtin.append_ #[t, t'] ty #[.slice none 0 0, .string s]).run P w := by
  cases a with
  | none => rfl
  | some a =>
    have h2 : Builtin.nextslicecap s.size 0 = s.size := by simp [Builtin.nextslicecap, h]
    have h3 : ¬ (281474976710656 < s.size) := by omega
    have h4 : ¬ s.size = 0 := by omega
    have h5 : ¬ (9223372036854775807 < (s.size : Int)) := by omega
    simp [Builtin.append_, run_underlying ht, run_underlying hu, sizeOf, typeInfo, hi, hb1, Builtin.lenOf, Builtin.firstCells, h2, h3, h4, h5, loadCells, loadCellsFrom]
theorem append_noroom {t te : TypeId} {i : TypeInfo} (ht : P.underlying t = some (.slice te)) (hi : P.info? te = some i) {a : Option Addr} {ad : Addr} {k c : Nat} (h : 0 < k) (hb : k * i.bytes ≤ 281474976710656) (hk : (k : Int) ≤ 9223372036854775807) (ty : TypeId) :
    (Builtin.append_ #[t, t] ty #[.slice a 0 0, .slice (some ad) k c]).run P w = (Builtin.append_ #[t, t] ty #[.slice none 0 0, .slice (some ad) k c]).run P w := by
  cases a with
  | none => rfl
  | some a =>
    have h1 : ¬ k ≤ 0 := by omega
    have h2 : Builtin.nextslicecap k 0 = k := by simp [Builtin.nextslicecap, h]
    have h3 : ¬ (281474976710656 < k * i.bytes) := by omega
    have h4 : ¬ k = 0 := by omega
    have h5 : ¬ (9223372036854775807 < (k : Int)) := by omega
    simp [Builtin.append_, run_underlying ht, sizeOf, typeInfo, hi, Builtin.lenOf, Builtin.firstCells, h2, h3, h4, h5, loadCells, loadCellsFrom]
/-- 'append(x, s...)', x owned, s a string: as the kit's law, with the place -/
theorem run_append_str_at {t u e ty : TypeId} {i : TypeInfo} (ht : P.underlying t = some (.slice e)) (hu : P.underlying u = some .string) (hi : P.info? e = some i) (hz : i.zero = some (.int .u8 0)) (hsize : i.size = 1) (hby : i.bytes = 1)
    {v : Value} {n : Nat} {xs : List Value} (hown : w.ownsRow 0 e 1 v n xs) (s : ByteArray) (h63 : n + s.size ≤ maxLen) (hbytes : n + s.size ≤ 140737488355328) :
    ∃ v' w', (Builtin.append_ #[t, u] ty #[v, .string s]).run P w = .ok v' w' ∧ w'.ownsRow 0 e 1 v' (n + s.size) (xs ++ Lib.strCells s) ∧ w.grownBy w' v.ownBlock ∧ (v'.ownBlock = v.ownBlock ∨ v'.ownBlock = some w.heap.size) := by
  obtain ⟨v', w', h1, h2, h3, h4⟩ := Lib.run_append_own_string w 0 t u ty e i ht hu hi hz hsize hby v n xs hown s h63 hbytes (Nat.zero_le _)
  refine ⟨v', w', h1, h2, h3, ?_⟩
  rcases hown.2 with ⟨rfl, rfl⟩ | ⟨g, cap, cur, rfl, hbg, hg, hnc, hcm, hcs, htake⟩
  · by_cases h0 : s.size = 0
    · exact .inl (by rw [h4.2 ⟨rfl, h0⟩])
    · have hr := run_append_nil_string (P := P) w t u ty e i (.int .u8 0) ht hu hi hz s (by omega) (by simp only [maxLen] at h63; omega) (by rw [hby]; omega)
      rw [hr] at h1
      cases h1
      exact .inr rfl
  · have hxl : xs.length = n := by simpa using hown.1
    by_cases hroom : n + s.size ≤ cap
    · have hcs' : cur.size = cap := by simpa using hcs
      have hr := Lib.run_append_room_string (P := P) w t u ty e i ht hu hi hsize g n cap cur hg s hroom (by omega)
      rw [hr] at h1
      cases h1
      exact .inl rfl
    · have holds : ∀ j u, xs[j]? = some u → w.cell? ((⟨g, 0, none⟩ : Addr).add j) = some u := hown.cells (g := g) rfl
      have hr := Lib.run_append_grow_string (P := P) w t u ty e i (.int .u8 0) ht hu hi hz ⟨g, 0, none⟩ n cap xs (by rw [hsize]; simpa using hxl) holds s (by omega) (by simp only [maxLen] at h63; omega) (by rw [hby]; exact growslice_fits (by omega) (by omega))
      rw [hr] at h1
      cases h1
      exact .inr rfl
theorem bytes_rowC (s : Str) : RowC S w (.int .u8) (bytesI s) (Lib.strCells ⟨s.toArray⟩) := by
  refine ⟨by simp [Lib.strCells, bytesI, Ty.sz], fun i x hx => ⟨[.int .u8 x], rfl, fun j v hv => ?_⟩⟩
  cases j with
  | zero =>
    simp only [bytesI, List.getElem?_map] at hx
    simp at hv
    subst hv
    cases hs : s[i]? with
    | none => simp [hs] at hx
    | some c =>
      simp [hs] at hx
      subst hx
      simp [Lib.strCells, Ty.sz, hs]
  | succ j => simp at hv
/-- an owned value, and something is appended -/
theorem append_run (hτ : TOK P τ) (hI : Inv w0 O F S w m) {t t' te ty : TypeId} {e : Ty} {y : V} {uy ux v : Value} {n : Nat} {ys : List e.D} {cells : List Value} (hkn : (τ te).known = true) (hty : (τ te).ty = some e) (hu : P.underlying t = some (.slice te))
    (hy : VRep F S w y uy) (hys : appendee τ m t t' e y = some ys) (hown : (w.ownsRow 0 te e.sz ux n cells ∧ v = ux) ∨ (∃ a, ux = .slice a 0 0 ∧ n = 0 ∧ cells = [] ∧ v = .slice none 0 0)) (hlim : (n + ys.length) * (τ te).by_ ≤ maxBytes) :
    ∃ (news : List Value), RowC S w e ys news ∧ ∃ v', ∃ w', (Builtin.append_ #[t, t'] ty #[ux, uy]).run P w = .ok v' w' ∧ ((∃ a, v' = .slice a 0 0 ∧ w' = w ∧ n = 0 ∧ ys = [] ∧ cells = [] ∧ v = .slice none 0 0) ∨ w'.ownsRow 0 te e.sz v' (n + ys.length) (cells ++ news) ∧ w.grownBy w' v.ownBlock ∧ (v'.ownBlock = v.ownBlock ∨ v'.ownBlock = some w.heap.size)) := by
  obtain ⟨hes, hpos, i, z, hinfo, hz, hisz, hby, hzc, hrep⟩ := elTy hτ hty hkn
  have hbp := (hτ te hkn).bpos
  have hmb : maxBytes = 70368744177664 := rfl
  have hsz := sizeOf_run hτ hkn w
  have hnm : n + ys.length ≤ maxBytes := Nat.le_trans (Nat.le_mul_of_pos_right _ hbp) hlim
  have hml : n + ys.length ≤ maxLen := by simp only [maxLen]; omega
  have hnil : w.ownsRow 0 te e.sz (.slice none 0 0) 0 [] := World.ownsRow_nil w 0 te e.sz
  -- nothing
  have none_ : ∀ (b : Option Addr) (c' : Nat), t' = t → uy = .slice b 0 c' → ys = [] → ∃ (news : List Value), RowC S w e ys news ∧ ∃ v', ∃ w', (Builtin.append_ #[t, t'] ty #[ux, uy]).run P w = .ok v' w' ∧ ((∃ a, v' = .slice a 0 0 ∧ w' = w ∧ n = 0 ∧ ys = [] ∧ cells = [] ∧ v = .slice none 0 0) ∨ w'.ownsRow 0 te e.sz v' (n + ys.length) (cells ++ news) ∧ w.grownBy w' v.ownBlock ∧ (v'.ownBlock = v.ownBlock ∨ v'.ownBlock = some w.heap.size)) := by
    rintro b c' rfl rfl rfl
    refine ⟨[], .nil, ?_⟩
    have hg : w.grownBy w v.ownBlock := ⟨rfl, rfl, rfl, Nat.le_refl _, fun _ _ _ => rfl⟩
    rcases hown with ⟨hown, rfl⟩ | ⟨a, rfl, rfl, rfl, rfl⟩
    · rcases hown.2 with ⟨rfl, rfl⟩ | ⟨g, cap, cur, rfl, hbg, hg', hnc, hcm, hcs, htake⟩
      · exact ⟨_, _, append_none hu hsz (Nat.le_refl _) ty, .inr ⟨by simpa using hown, hg, .inl rfl⟩⟩
      · exact ⟨_, _, append_none hu hsz hnc ty, .inr ⟨by simpa using hown, hg, .inl rfl⟩⟩
    · exact ⟨_, _, append_none hu hsz (Nat.le_refl _) ty, .inl ⟨a, rfl, rfl, rfl, rfl, rfl, rfl⟩⟩
  have some_ : ∀ (g o c' : Nat) (news : List Value), t' = t → uy = .slice (some ⟨g, o, none⟩) ys.length c' → RowC S w e ys news → (∀ (j : Nat) u, news[j]? = some u → w.cell? ⟨g, o + j, none⟩ = some u) → ys ≠ [] → ∃ (news : List Value), RowC S w e ys news ∧ ∃ v', ∃ w', (Builtin.append_ #[t, t'] ty #[ux, uy]).run P w = .ok v' w' ∧ ((∃ a, v' = .slice a 0 0 ∧ w' = w ∧ n = 0 ∧ ys = [] ∧ cells = [] ∧ v = .slice none 0 0) ∨ w'.ownsRow 0 te e.sz v' (n + ys.length) (cells ++ news) ∧ w.grownBy w' v.ownBlock ∧ (v'.ownBlock = v.ownBlock ∨ v'.ownBlock = some w.heap.size)) := by
    rintro g o c' news rfl rfl hrc hcell hne
    refine ⟨news, hrc, ?_⟩
    have hpos' : 0 < ys.length := List.length_pos_iff.2 hne
    have hat : ∀ j u, news[j]? = some u → w.cell? ((⟨g, o, none⟩ : Addr).add j) = some u := fun j u hu => by rw [Addr.add_lit]; exact hcell j u hu
    rcases hown with ⟨hown, rfl⟩ | ⟨a, rfl, rfl, rfl, rfl⟩
    · obtain ⟨v', w', h1, h2, h3, _, h5⟩ := run_append_own_at (P := P) w 0 t' ty te i z e.sz (τ te).by_ hu hinfo hz hisz hby hzc hpos _ n cells hown ⟨g, o, none⟩ ys.length c' news hrc.1 hat hrc.ones hml (by omega) (Nat.zero_le _)
      exact ⟨v', w', h1, .inr ⟨h2, h3, h5⟩⟩
    · obtain ⟨v', w', h1, h2, h3, _, h5⟩ := run_append_own_at (P := P) w 0 t' ty te i z e.sz (τ te).by_ hu hinfo hz hisz hby hzc hpos (.slice none 0 0) 0 [] hnil ⟨g, o, none⟩ ys.length c' news hrc.1 hat hrc.ones hml (by omega) (Nat.zero_le _)
      have h6 := append_noroom (P := P) (w := w) (te := te) hu hinfo (a := a) (ad := ⟨g, o, none⟩) (k := ys.length) (c := c') hpos' (by rw [hby]; simp only [Nat.zero_add] at hlim; omega) (by omega) ty
      rw [h1] at h6
      refine ⟨v', w', h6, .inr ⟨h2, h3, h5⟩⟩
  unfold appendee at hys
  split at hys
  · obtain ⟨htt, hys⟩ := ite_some hys
    cases hys
    obtain ⟨a, rfl⟩ := hy.nil_inv
    exact none_ a 0 htt rfl rfl
  · rename_i s
    split at hys
    · rename_i hk
      split at hys
      · rename_i he
        cases he
        cases hys
        have hu' : P.underlying t' = some .string := by have := (hτ t' (known_of (by simp [hk]))).kind; rw [hk] at this; exact this
        have hzz : i.zero = some (.int .u8 0) ∧ (τ te).by_ = 1 := by
          obtain ⟨h1, i', hi', hz'⟩ := (hτ te hkn).u8 hty
          rw [hinfo] at hi'
          cases hi'
          exact ⟨hz', h1⟩
        rw [hy.str_inv]
        refine ⟨Lib.strCells ⟨s.toArray⟩, bytes_rowC s, ?_⟩
        have hlen : (bytesI s).length = (⟨s.toArray⟩ : ByteArray).size := by simp [bytesI, ByteArray.size]
        have hlim : (n + (bytesI s).length) * (τ te).by_ ≤ maxBytes := hlim
        have hml : n + (bytesI s).length ≤ maxLen := hml
        rw [hzz.2, Nat.mul_one] at hlim
        rcases hown with ⟨hown, rfl⟩ | ⟨a, rfl, rfl, rfl, rfl⟩
        · obtain ⟨v', w', h1, h2, h3, h4⟩ := run_append_str_at (P := P) (ty := ty) hu hu' hinfo hzz.1 hisz (hby.trans hzz.2) hown ⟨s.toArray⟩ (by rw [← hlen]; exact hml) (by rw [← hlen]; omega)
          exact ⟨v', w', h1, .inr ⟨by rw [hlen]; exact h2, h3, h4⟩⟩
        · obtain ⟨v', w', h1, h2, h3, h4⟩ := run_append_str_at (P := P) (ty := ty) hu hu' hinfo hzz.1 hisz (hby.trans hzz.2) hnil ⟨s.toArray⟩ (by rw [← hlen]; exact hml) (by rw [← hlen]; omega)
          by_cases h0 : s = []
          · subst h0
            refine ⟨.slice a 0 0, w, ?_, .inl ⟨a, rfl, rfl, rfl, rfl, rfl, rfl⟩⟩
            have hs0 : (⟨#[]⟩ : ByteArray).size = 0 := rfl
            cases a <;> simp [Builtin.append_, run_underlying hu, run_underlying hu', hsz, Builtin.lenOf, Builtin.firstCells, hs0, storeCells]
          · have h6 := append_noroom_str (P := P) (w := w) (te := te) hu hu' hinfo (hby.trans hzz.2) (a := a) (s := ⟨s.toArray⟩) (by rw [← hlen]; omega) ty (by rw [← hlen]; simp [bytesI]; exact List.length_pos_iff.2 h0)
            rw [h1] at h6
            refine ⟨v', w', h6, .inr ⟨by rw [hlen]; exact h2, h3, h4⟩⟩
      · cases hys
    · cases hys
  · split at hys
    · rename_i e' ys' hel
      split at hys
      · rename_i he
        cases he
        obtain ⟨htt, hys⟩ := ite_some hys
        cases hys
        obtain ⟨a, cap, rfl, hc, hr⟩ := elems_sound hI hy hel
        by_cases h0 : ys' = []
        · subst h0
          exact none_ a cap htt rfl rfl
        · obtain ⟨g, o, news, rfl, hrc, hcell⟩ := hr.resolve_left h0
          exact some_ g o cap news htt rfl hrc hcell h0
      · cases hys
    · cases hys
theorem appendV_sound (hτ : TOK P τ) (hI : Inv w0 O F S w m) (hL : AtOk L F m) {t t' ty : TypeId} {x y : V} {ux uy : Value} {K : V → Mem → Option R} {r : R} (hx : VRep F S w x ux) (hy : VRep F S w y uy) (h : appendV τ L m t t' x y K = some r) :
    Ends P w0 O F S w K r (Builtin.append_ #[t, t'] ty #[ux, uy]) := by
  unfold appendV at h
  split at h
  · rename_i te hk
    replace h := ite_some h
    obtain ⟨hkn, h⟩ := h
    split at h
    · rename_i e hty
      have hu : P.underlying t = some (.slice te) := by have := (hτ t (known_of (by simp [hk]))).kind; rw [hk] at this; exact this
      obtain ⟨hes, hpos, _⟩ := elTy hτ hty hkn
      split at h
      · cases h
      · rename_i ys hys
        -- nil, or a slice without room
        have empty_ : ∀ {m1 : Mem} {a : Option Addr}, ux = .slice a 0 0 → Inv w0 O F S w m1 → AtOk L F m1 → ys.length * (τ te).by_ ≤ maxBytes → K (.own (lay L m1 (.row e ys (some te))).1 none) (lay L m1 (.row e ys (some te))).2 = some r →
            Ends P w0 O F S w K r (Builtin.append_ #[t, t'] ty #[ux, uy]) := by
          intro m1 a hux hI1 hL1 hlim h
          obtain ⟨news, hrc, v', w', hrun, hres⟩ := append_run (ty := ty) (n := 0) (v := .slice none 0 0) (cells := []) hτ hI hkn hty hu hy hys (.inr ⟨a, hux, rfl, rfl, rfl⟩) (by simpa using hlim)
          rcases hres with ⟨a', rfl, rfl, _, rfl, _, _⟩ | ⟨h2, h3, h4⟩
          · obtain ⟨l1, l2, l3⟩ := lay_spec hL1 hI1 (.row e [] (some te))
            obtain ⟨i2, k2⟩ := hI1.add (p := ⟨0, 0, 0, e.sz, 0⟩) l1 l2 l3 (fun h => absurd h (by simp [Blk.hot])) (fun h => absurd h (by simp [Blk.hot])) ⟨rfl, ⟨rfl, Nat.le_refl _⟩, fun _ => Nat.zero_le _, fun h => absurd h (by simp)⟩
            exact ⟨_, _, _, _, S, _, hrun, .own (p := ⟨0, 0, 0, e.sz, 0⟩) (by simp [placeF]) rfl (fun h => absurd h (by simp)), i2, k2, h⟩
          · obtain ⟨v1, F1, w1, g1, g2, g3, g4⟩ := append_core (v := .slice none 0 0) (xs := []) (ys := ys) (cells := []) hpos hI1 hL1 (fun g hg => by simp [Value.ownBlock] at hg) .nil hrc ⟨v', w', hrun, h2, h3, h4⟩
            exact ⟨_, v1, _, F1, S, w1, g1, g2, g3, g4, h⟩
        split at h
        · rename_i b
          split at h
          · rename_i e' xs te' hm
            split at h
            · rename_i he
              obtain ⟨rfl, rfl⟩ := he
              replace h := chk_some h
              obtain ⟨hlim, h⟩ := h
              have hlim : (xs.length + ys.length) * (τ te').by_ ≤ maxBytes := of_decide_eq_true hlim
              have h : K (.own (lay L (m.set b .dead) (.row e' (xs ++ ys) (some te'))).1 none) (lay L (m.set b .dead) (.row e' (xs ++ ys) (some te'))).2 = some r := h
              obtain ⟨p, a, l, hf, hn, ha, hux⟩ := hx.own_inv
              have hn : l = p.len := hn
              obtain ⟨hz, ⟨hl, hc⟩, hmx, hr⟩ := hI.blk b _ p hm hf
              have hL1 : AtOk L F (m.set b .dead) := fun q hq => ⟨(hL q hq).1, fun i hi => ⟨by
                by_cases hib : b = i
                · subst hib
                  have := ((hL q hq).2 b hi).1
                  rw [hm] at this
                  cases this
                · rw [List.getElem?_set_ne hib]; exact ((hL q hq).2 i hi).1, ((hL q hq).2 i hi).2⟩⟩
              rcases Nat.eq_zero_or_pos p.cap with hc0 | hc0
              · have hx0 : xs = [] := List.length_eq_zero_iff.1 (by omega)
                subst hx0
                refine empty_ (a := a) ?_ (hI.kill b) hL1 (by simpa using hlim) h
                rw [hux, hc0, hn, hl]
                rfl
              · obtain ⟨arr, T, fr, hh, hfr, hs, hel, ha'⟩ := hr hc0
                obtain ⟨ho, rfl, rfl, hsz⟩ := ha' te' rfl
                have hle : xs.length * e'.sz ≤ arr.size := by rw [hsz]; exact Nat.mul_le_mul_right _ hc
                have hrx : RowC S w e' xs (arr.toList.take (xs.length * e'.sz)) := by
                  refine ⟨by simp; omega, fun i x hx => ?_⟩
                  obtain ⟨ec, hd, hcell⟩ := hel i x hx
                  refine ⟨ec, hd, fun j v hv => ?_⟩
                  rw [List.getElem?_take, if_pos (elem_lt (List.getElem?_eq_some_iff.1 hx).1 (hd.lt hv))]
                  have := hcell j v hv
                  rw [ho, Nat.zero_add] at this
                  simpa using this
                have hux' : ux = .slice (some ⟨p.g, 0, none⟩) xs.length p.cap := by rw [hux, ha hc0, ho, hn, hl]
                have hown : w.ownsRow 0 T e'.sz ux xs.length (arr.toList.take (xs.length * e'.sz)) := ⟨hrx.1, .inr ⟨p.g, p.cap, arr, hux', Nat.zero_le _, hh, hc, hmx (by simp), hsz, rfl⟩⟩
                obtain ⟨news, hrc, v', w', hrun, hres⟩ := append_run (ty := ty) (v := ux) hτ hI hkn hty hu hy hys (.inl ⟨hown, rfl⟩) hlim
                have hob : ux.ownBlock = some p.g := by rw [hux']; rfl
                have hres' : w'.ownsRow 0 T e'.sz v' (xs.length + ys.length) (arr.toList.take (xs.length * e'.sz) ++ news) ∧ w.grownBy w' ux.ownBlock ∧ (v'.ownBlock = ux.ownBlock ∨ v'.ownBlock = some w.heap.size) := by
                  rcases hres with ⟨_, _, _, _, _, _, hv⟩ | hres
                  · rw [hux'] at hv; cases hv
                  · exact hres
                obtain ⟨v1, F1, w1, g1, g2, g3, g4⟩ := append_core (v := ux) hpos (hI.kill b) hL1 (fun g hg => by
                  rw [hob] at hg
                  cases hg
                  exact ⟨hI.free_kill hm hf hc0, (hI.out b _ p hm hf hc0).1, (hI.out b _ p hm hf hc0).2.2⟩) hrx hrc ⟨v', w', hrun, hres'⟩
                exact ⟨_, v1, _, F1, S, w1, g1, g2, g3, g4, h⟩
            · cases h
          · cases h
        · obtain ⟨hlim, h⟩ := chk_some h
          obtain ⟨a, hux⟩ := hx.nil_inv
          exact empty_ hux hI hL (of_decide_eq_true hlim) h
        · cases h
    · cases h
  · cases h
end
end Go.Vi

/-
  Vi, part 13: slices of slices, conversions, lengths.
-/
namespace Go.Vi
open Go
section
variable {R : Type} {F : Nat → Option Pl} {S : Nat → Prop} {w w0 : World} {O : Nat → Prop} {m : Mem} {P : Program} {τ : Tau} {L : At}
theorem asI_rep {v : V} {u : Value} {n : Int} (h : VRep F S w v u) (hn : asI v = some n) : ∃ k, u = .int k n := by
  unfold asI at hn
  split at hn
  · rename_i k n'
    cases hn
    exact ⟨k, h.int_inv⟩
  · cases hn
/-- a bound that is there or not -/
def BRp (F : Nat → Option Pl) (S : Nat → Prop) (w : World) (x : Option V) (u : Option Value) : Prop := match x, u with
  | none, none => True
  | some v, some u => VRep F S w v u
  | _, _ => False
theorem bound_some {x : Option V} {u : Option Value} {z : Int} {K : Int → Option R} {r : R} (hb : BRp F S w x u) (h : bound x z K = some r) : ∃ n, K n = some r ∧ ((u = none ∧ n = z) ∨ ∃ k, u = some (.int k n)) := by
  cases x with
  | none =>
    cases u with
    | none => exact ⟨_, h, .inl ⟨rfl, rfl⟩⟩
    | some u => exact hb.elim
  | some v =>
    cases u with
    | none => exact hb.elim
    | some u =>
      simp only [bound] at h
      split at h
      · rename_i n hn
        obtain ⟨k, rfl⟩ := asI_rep hb hn
        exact ⟨_, h, .inr ⟨k, rfl⟩⟩
      · cases h
theorem BRp.keep {F' : Nat → Option Pl} {S' : Nat → Prop} {w' : World} (k : Keep F S w F' S' w') {x : Option V} {u : Option Value} (h : BRp F S w x u) : BRp F' S' w' x u := by
  cases x <;> cases u <;> simp only [BRp] at h ⊢
  exact VRep.keep k h
theorem own_cap (hI : Inv w0 O F S w m) {b : Nat} {q : Int} {p : Pl} (hf : F b = some p) (h : rowLen m b = some q) : p.len ≤ p.cap ∧ q = p.len := by
  unfold rowLen at h
  split at h
  · rename_i e xs a hm
    cases h
    obtain ⟨_, ⟨h1, h2⟩, _⟩ := hI.blk b _ p hm hf
    exact ⟨by omega, by rw [h1]⟩
  · rename_i e xs hm
    cases h
    obtain ⟨_, ⟨h1, h2⟩, _⟩ := hI.blk b _ p hm hf
    exact ⟨by omega, by rw [h1]⟩
  · cases h
theorem bounds_run {isS : Bool} {len cap : Nat} {lo hi : Option Value} {l h : Int} (hl : (lo = none ∧ l = 0) ∨ ∃ k, lo = some (.int k l)) (hh : (hi = none ∧ h = (len : Int)) ∨ ∃ k, hi = some (.int k h)) (h0 : 0 ≤ l) (h1 : l ≤ h) (h2 : h ≤ len) (hc : len ≤ cap) :
    (Instr.sliceBounds isS len cap lo hi none).run P w = .ok (l.toNat, h.toNat, cap) w := by
  have h3 : h ≤ (cap : Int) := by omega
  have h4 : 0 ≤ h := by omega
  have e1 : (h.toNat : Int) = h := Int.toNat_of_nonneg h4
  have h5 : l ≤ (h.toNat : Int) := by omega
  rcases hl with ⟨rfl, rfl⟩ | ⟨k, rfl⟩ <;> rcases hh with ⟨rfl, rfl⟩ | ⟨k', rfl⟩
  · simp [Instr.sliceBounds]
  · simp [Instr.sliceBounds, run_sliceBound, h3, h4]
  · simp [Instr.sliceBounds, run_sliceBound, h0, h1]
  · have e := run_sliceBound (P := P) (w := w) k l h.toNat .sliceB h0 h5
    simp [Instr.sliceBounds, run_sliceBound, h3, h4, e]
theorem slice_run {t te : TypeId} {z : Nat} (ht : P.underlying t = some (.slice te)) (hz : (sizeOf te).run P w = .ok z w) {a : Option Addr} {len cap : Nat} {lo hi : Option Value} {l h : Int} (hl : (lo = none ∧ l = 0) ∨ ∃ k, lo = some (.int k l)) (hh : (hi = none ∧ h = (len : Int)) ∨ ∃ k, hi = some (.int k h)) (h0 : 0 ≤ l) (h1 : l ≤ h) (h2 : h ≤ len) (hc : len ≤ cap) :
    (Instr.sliceAt t (.slice a len cap) lo hi none).run P w = .ok (.slice (if cap = l.toNat then a else a.map (·.add (l.toNat * z))) (h.toNat - l.toNat) (cap - l.toNat)) w := by
  have hb := bounds_run (P := P) (w := w) (isS := true) hl hh h0 h1 h2 hc
  simp [Instr.sliceAt, Instr.slice, run_underlying ht, hb, hz]
/-- a part of a datum -/
theorem sl_part {e : Ty} {xs : List e.D} {a : Option Addr} {cap : Nat} {l h : Int} (hc : xs.length ≤ cap) (hr : xs = [] ∨ ∃ g o, a = some ⟨g, o, none⟩ ∧ RowS S w e xs g o) (_h0 : 0 ≤ l) (h1 : l ≤ h) (h2 : h ≤ (xs.length : Int)) :
    VRep F S w (.d (.sl e) ((xs.take h.toNat).drop l.toNat)) (.slice (if cap = l.toNat then a else a.map (·.add (l.toNat * e.sz))) (h.toNat - l.toNat) (cap - l.toNat)) := by
  have hlen : ((xs.take h.toNat).drop l.toNat).length = h.toNat - l.toNat := by simp; omega
  rw [← hlen]
  refine .sl (by rw [hlen]; omega) ?_
  by_cases hn : (xs.take h.toNat).drop l.toNat = []
  · exact .inl hn
  · have hp : 0 < ((xs.take h.toNat).drop l.toNat).length := List.length_pos_iff.2 hn
    rcases hr with rfl | ⟨g, o, rfl, hs, hr⟩
    · simp at hn
    · right
      refine ⟨g, o + l.toNat * e.sz, ?_, hs, fun i x hx => ?_⟩
      · rw [if_neg (by omega)]
        simp [Addr.add_lit]
      · rw [List.getElem?_drop, List.getElem?_take] at hx
        split at hx
        · obtain ⟨ec, hd, hcell⟩ := hr _ x hx
          refine ⟨ec, hd, fun j v hv => ?_⟩
          have := hcell j v hv
          rw [Nat.add_mul] at this
          rw [show o + l.toNat * e.sz + i * e.sz + j = o + (l.toNat * e.sz + i * e.sz) + j by omega]
          exact this
        · cases hx
/-- what stands behind a place of a row of one's own is a row of one's own -/
theorem own_suffix {L : At} (hI : Inv w0 O F S w m) (hL : AtOk L F m) {b : Nat} {e : Ty} {xs : List e.D} {q : Option TypeId} {p : Pl} {n : Option Int} {ln : Nat} {a : Option Addr} {l h : Int} {z : Nat} (hm : m[b]? = some (.row e xs q)) (hf : F b = some p)
    (hn : match n with | none => ln = p.len | some n => 0 ≤ n ∧ n ≤ p.len ∧ ln = n.toNat) (ha : 0 < p.cap → a = some ⟨p.g, p.o, none⟩) (h0 : 0 ≤ l) (h1 : l ≤ h) (h2 : h ≤ ((pre xs n).length : Int)) (hz : z = e.sz) :
    ∃ F' , ∃ _ : Unit, Keep F S w F' S w ∧ Inv w0 O F' S w (lay L (m.set b .dead) (.row e (((pre xs n).take h.toNat).drop l.toNat) none)).2 ∧
      VRep F' S w (.own (lay L (m.set b .dead) (.row e (((pre xs n).take h.toNat).drop l.toNat) none)).1 none) (.slice (if p.cap = l.toNat then a else a.map (·.add (l.toNat * z))) (h.toNat - l.toNat) (p.cap - l.toNat)) := by
  subst hz
  obtain ⟨q1, q2, q3, q4⟩ := hI.blk b _ p hm hf
  have hpl : (pre xs n).length = ln := pre_len (by rw [← q2.1]; exact hn)
  have hlt : b < m.length := (List.getElem?_eq_some_iff.1 hm).1
  have hI1 := hI.kill b
  have hL1 : AtOk L F (m.set b .dead) := fun l hl => ⟨(hL l hl).1, fun i hi => ⟨by
    rw [List.getElem?_set]
    split
    · rename_i e; subst e; simp
    · exact ((hL l hl).2 i hi).1, ((hL l hl).2 i hi).2⟩⟩
  have hln : ln ≤ p.cap := by rw [← q2.1] at q2; cases n <;> simp at hn <;> omega
  obtain ⟨g1, g2, g3⟩ := lay_spec hL1 hI1 (.row e (((pre xs n).take h.toNat).drop l.toNat) none)
  have hlen : (((pre xs n).take h.toNat).drop l.toNat).length = h.toNat - l.toNat := by simp; omega
  obtain ⟨i2, k2⟩ := hI1.add (p := ⟨p.g, p.o + l.toNat * e.sz, p.cap - l.toNat, e.sz, h.toNat - l.toNat⟩) g1 g2 g3 (fun hx => hI.free_kill (p := p) hm hf (by show 0 < p.cap; have : 0 < p.cap - l.toNat := hx; omega)) (fun hx => hI.out b _ p hm hf (by show 0 < p.cap; have : 0 < p.cap - l.toNat := hx; omega)) (by
    refine ⟨rfl, ⟨hlen.symm, ?_⟩, fun h => (h rfl).elim, fun hc => ?_⟩
    · rw [hlen]; show h.toNat - l.toNat ≤ p.cap - l.toNat; omega
    · have hc : 0 < p.cap - l.toNat := hc
      obtain ⟨arr, T, fr, d1, d2, d3, d4, _⟩ := q4 (by omega)
      refine ⟨arr, T, fr, d1, d2, ?_, fun i x hx => ?_, fun te h => by cases h⟩
      · show p.o + l.toNat * e.sz + (p.cap - l.toNat) * e.sz ≤ arr.size
        have : l.toNat * e.sz + (p.cap - l.toNat) * e.sz = p.cap * e.sz := by rw [← Nat.add_mul]; congr 1; omega
        omega
      · rw [List.getElem?_drop] at hx
        have hx' : (pre xs n)[l.toNat + i]? = some x := by
          rw [List.getElem?_take] at hx
          split at hx
          · exact hx
          · cases hx
        obtain ⟨ec, e1, e2⟩ := d4 _ x (pre_get hx')
        refine ⟨ec, e1, fun j v hv => ?_⟩
        have := e2 j v hv
        rw [Nat.add_mul] at this
        show arr[p.o + l.toNat * e.sz + i * e.sz + j]? = some v
        rwa [show p.o + l.toNat * e.sz + i * e.sz + j = p.o + (l.toNat * e.sz + i * e.sz) + j by omega])
  refine ⟨_, (), ?_, i2, ?_⟩
  · exact k2
  · refine .own (p := ⟨p.g, p.o + l.toNat * e.sz, p.cap - l.toNat, e.sz, h.toNat - l.toNat⟩) (by simp [placeF]) rfl (fun hc => ?_)
    have hc : 0 < p.cap - l.toNat := hc
    rw [if_neg (by omega), ha (by omega)]
    simp [addr_add]
theorem sliceV_sound {L : At} (hτ : TOK P τ) (hI : Inv w0 O F S w m) (hL : AtOk L F m) {t : TypeId} {x : V} {ux : Value} {lo hi : Option V} {ulo uhi : Option Value} {K : V → Mem → Option R} {r : R} (hx : VRep F S w x ux) (hlo : BRp F S w lo ulo) (hhi : BRp F S w hi uhi) (h : sliceV τ L m t x lo hi K = some r) :
    Ends P w0 O F S w K r (Instr.sliceAt t ux ulo uhi none) := by
  unfold sliceV at h
  split at h
  · rename_i hk
    have hu : P.underlying t = some .string := by have := (hτ t (known_of (by simp [hk]))).kind; rw [hk] at this; exact this
    split at h
    · rename_i s
      obtain ⟨l, h, hl⟩ := bound_some hlo h
      obtain ⟨h', h, hh⟩ := bound_some hhi h
      obtain ⟨hb, h⟩ := chk_some h
      simp only [Bool.and_eq_true, decide_eq_true_eq] at hb
      obtain ⟨⟨h0, h1⟩, h2⟩ := hb
      rw [hx.str_inv]
      have hsz : (⟨s.toArray⟩ : ByteArray).size = s.length := by simp [ByteArray.size]
      have hbr := bounds_run (P := P) (w := w) (isS := false) (len := s.length) (cap := s.length) hl hh h0 h1 h2 (Nat.le_refl _)
      refine ⟨_, .string ((⟨s.toArray⟩ : ByteArray).extract l.toNat h'.toNat), m, F, S, w, ?_, ?_, hI, .refl _ _ _, h⟩
      · simp [Instr.sliceAt, Instr.slice, run_underlying hu, hsz, hbr]
      · have : (⟨s.toArray⟩ : ByteArray).extract l.toNat h'.toNat = ⟨((s.take h'.toNat).drop l.toNat).toArray⟩ := by
          apply ByteArray.ext
          simp [ByteArray.data_extract, List.extract_toArray, List.extract_eq_take_drop, List.drop_take]
        rw [this]
        exact .str
    · cases h
  · rename_i te hk
    have hu : P.underlying t = some (.slice te) := by have := (hτ t (known_of (by simp [hk]))).kind; rw [hk] at this; exact this
    obtain ⟨hkn, h⟩ := ite_some h
    have hz := sizeOf_run hτ hkn w
    split at h
    · rename_i e xs
      obtain ⟨he, h⟩ := ite_some h
      obtain ⟨l, h, hl⟩ := bound_some hlo h
      obtain ⟨h', h, hh⟩ := bound_some hhi h
      obtain ⟨hb, h⟩ := chk_some h
      simp only [Bool.and_eq_true, decide_eq_true_eq] at hb
      obtain ⟨⟨h0, h1⟩, h2⟩ := hb
      obtain ⟨a, cap, rfl, hc, hr⟩ := hx.sl_inv
      exact ⟨_, _, m, F, S, w, slice_run hu (he ▸ hz) hl hh h0 h1 h2 hc, sl_part hc hr h0 h1 h2, hI, .refl _ _ _, h⟩
    · rename_i b n _
      split at h
      · split at h
        · rename_i q n' hq hn'
          obtain ⟨h', h, hh⟩ := bound_some hhi h
          obtain ⟨hb, hK⟩ := chk_some h
          simp only [Bool.and_eq_true, decide_eq_true_eq] at hb
          obtain ⟨h0, h2⟩ := hb
          obtain ⟨p, a, l, hf, hn, ha, rfl⟩ := hx.own_inv
          obtain ⟨hc, rfl⟩ := own_cap hI hf hq
          have hnl : n' = (l : Int) ∧ l ≤ p.len := by
            cases n with
            | none =>
              simp only [lenV, hq, Option.some.injEq] at hn'
              simp only at hn
              omega
            | some n =>
              simp only [lenV, Option.some.injEq] at hn'
              simp only at hn
              omega
          obtain ⟨rfl, hlp⟩ := hnl
          have hlo : ulo = none := by
            cases ulo with
            | none => rfl
            | some u => exact hlo.elim
          refine ⟨_, _, m, F, S, w, slice_run hu hz (.inl ⟨hlo, rfl⟩) hh (Int.le_refl _) h0 h2 (by omega), .own hf (n := some h') (p := p) ?_ (fun hp => ?_), hI, .refl _ _ _, hK⟩
          · refine ⟨h0, by omega, by simp⟩
          · have := ha hp
            subst this
            by_cases h0 : p.cap = 0
            · omega
            · simp [h0, Addr.add_lit]
        · cases h
      · split at h
        · rename_i e xs q hm
          obtain ⟨he, h⟩ := ite_some h
          obtain ⟨l, h, hl⟩ := bound_some hlo h
          obtain ⟨h', h, hh⟩ := bound_some hhi h
          obtain ⟨hb, h⟩ := chk_some h
          simp only [Bool.and_eq_true, decide_eq_true_eq] at hb
          obtain ⟨⟨h0, h1⟩, h2⟩ := hb
          obtain ⟨p, a, ln, hf, hn, ha, rfl⟩ := hx.own_inv
          have hpl : (pre xs n).length = ln := pre_len (by rw [← (hI.blk b _ p hm hf).2.1.1]; exact hn)
          obtain ⟨F', u', k2, i2, hv⟩ := own_suffix hI hL hm hf hn ha h0 h1 h2 (z := e.sz) rfl
          rw [hpl] at hh
          refine ⟨_, _, _, F', S, w, slice_run hu (he ▸ hz) hl hh h0 h1 (by rw [hpl] at h2; exact h2) (by have := (hI.blk b _ p hm hf).2.1; cases n <;> simp at hn <;> omega), hv, i2, k2, h⟩
        · rename_i e xs hm
          obtain ⟨he, h⟩ := ite_some h
          obtain ⟨l, h, hl⟩ := bound_some hlo h
          obtain ⟨h', h, hh⟩ := bound_some hhi h
          obtain ⟨hb, h⟩ := chk_some h
          simp only [Bool.and_eq_true, decide_eq_true_eq] at hb
          obtain ⟨⟨h0, h1⟩, h2⟩ := hb
          obtain ⟨S', i2, k2, r2⟩ := takeC_sound hI hx
          have htk : takeC m (.own b n) = (.d (.sl e) (pre xs n), m) := by simp [takeC, hm]
          rw [htk] at i2 r2
          obtain ⟨a, cap, rfl, hc, hr⟩ := r2.sl_inv
          exact ⟨_, _, m, F, S', w, slice_run hu (he ▸ hz) hl hh h0 h1 h2 hc, sl_part hc hr h0 h1 h2, i2, k2, h⟩
        · cases h
    · obtain ⟨l, h, hl⟩ := bound_some hlo h
      obtain ⟨h', h, hh⟩ := bound_some hhi h
      obtain ⟨hb, h⟩ := chk_some h
      simp only [Bool.and_eq_true, beq_iff_eq] at hb
      obtain ⟨rfl, rfl⟩ := hb
      obtain ⟨a, rfl⟩ := hx.nil_inv
      exact ⟨_, _, m, F, S, w, slice_run hu hz hl hh (Int.le_refl _) (Int.le_refl _) (Int.le_refl _) (Nat.le_refl _), .nil, hI, .refl _ _ _, h⟩
    · cases h
    
  · cases h
theorem under (hτ : TOK P τ) {t : TypeId} {k : K} (hk : (τ t).kind = k) (hn : k ≠ .other) : TIok P τ t := hτ t (by unfold TI.known; rw [hk]; cases k <;> simp at hn ⊢)
theorem under_any (hτ : TOK P τ) {t : TypeId} (h : (τ t).known = true) : ∃ d, P.underlying t = some d ∧ (d = .unsafePointer → False) := by
  have hk := (hτ t h).kind
  split at hk
  all_goals first
    | exact ⟨_, hk, fun h => by cases h⟩
    | (obtain ⟨_, h1, _⟩ := hk; exact ⟨_, h1, fun h => by cases h⟩)
    | (obtain ⟨_, _, _, h1⟩ := hk; exact ⟨_, h1, fun h => by cases h⟩)
    | exact hk.elim
theorem foldl_push_ints : ∀ (l : List Int) (r : ByteArray), l.foldl (fun r n => r.push (UInt8.ofNat n.toNat)) r = ⟨r.data ++ (toStr l).toArray⟩
  | [], r => by simp [toStr]
  | n :: l, r => by
    simp only [List.foldl_cons]
    rw [foldl_push_ints l]
    simp [ByteArray.push, toStr]
theorem convV_sound (hτ : TOK P τ) (hI : Inv w0 O F S w m) (hL : AtOk L F m) {src dst : TypeId} {x : V} {ux : Value} {K : V → Mem → Option R} {r : R} (hx : VRep F S w x ux) (h : convV τ L m src dst x K = some r) :
    Ends P w0 O F S w K r (convert src dst ux) := by
  unfold convV at h
  split at h
  · rename_i k k' n hk
    obtain ⟨n, rfl⟩ : ∃ j : Int, j = n := ⟨n, rfl⟩
    obtain ⟨hs, h⟩ := ite_some h
    obtain ⟨d, hd, _⟩ := under_any hτ hs
    have hu : P.underlying dst = some (.int k) := by have := (under hτ hk (by simp)).kind; rw [hk] at this; exact this
    rw [hx.int_inv]
    refine ⟨_, .int k (k.wrap n), m, F, S, w, ?_, .int, hI, .refl _ _ _, h⟩
    simp [convert, run_underlying hd, run_underlying hu, Conv.intToInt]
  · rename_i te s hk
    split at h
    · rename_i hk2 hk3
      have hu : P.underlying dst = some (.slice te) := by have := (under hτ hk (by simp)).kind; rw [hk] at this; exact this
      have hu2 : P.underlying te = some (.int .u8) := by have := (under hτ hk2 (by simp)).kind; rw [hk2] at this; exact this
      have hu3 : P.underlying src = some .string := by have := (under hτ hk3 (by simp)).kind; rw [hk3] at this; exact this
      rw [hx.str_inv]
      have hrun := run_bytes_of_string (P := P) w src dst te ⟨s.toArray⟩ hu3 hu hu2
      have hsz : (⟨s.toArray⟩ : ByteArray).size = s.length := by simp [ByteArray.size]
      have hge := grownCap_ge w (⟨s.toArray⟩ : ByteArray).size 0 te
      rw [hsz] at hge hrun
      generalize hgc : grownCap w s.length 0 te = cap at hrun hge
      have hbr : bytesRow ⟨s.toArray⟩ cap = (Lib.strCells ⟨s.toArray⟩ ++ List.replicate (cap - s.length) (Value.int .u8 0)).toArray := by
        apply Array.ext'
        simp [bytesRow, Lib.strCells, hsz]
      have hblen : (bytesRow ⟨s.toArray⟩ cap).size = cap := by
        rw [hbr]
        simp [Lib.strCells_length, hsz]
        omega
      have i1 : Inv w0 O F S w.drew m ∧ Keep F S w F S w.drew := ⟨hI.world rfl rfl rfl (Nat.le_refl _) (fun _ _ => rfl) (fun _ _ _ _ _ _ => rfl) (fun _ _ _ => rfl), fun _ _ h => h, fun _ h => h, fun _ _ => rfl⟩
      have hb : BRep (placeF F (lay L m (.row (.int .u8) (bytesI s) none)).1 ⟨w.heap.size, 0, cap, 1, (bytesI s).length⟩) S (w.drew.alloc (.cells (bytesRow ⟨s.toArray⟩ cap) te ((bytesRow ⟨s.toArray⟩ cap).size, (bytesRow ⟨s.toArray⟩ cap).size + 1))) ⟨w.heap.size, 0, cap, 1, (bytesI s).length⟩ (.row (.int .u8) (bytesI s) none) := by
        refine ⟨rfl, ⟨rfl, by simpa [bytesI] using hge⟩, fun h => (h rfl).elim, fun _ => ⟨_, te, _, heap_alloc_new w.drew _, .inr (Nat.le_refl _), ?_, fun i x hx => ?_, fun t ht => by cases ht⟩⟩
        · rw [hblen]; simp [Ty.sz]
        · obtain ⟨ec, hd, hc⟩ := (bytes_rowC (S := S) (w := w.drew) s).2 i x hx
          refine ⟨ec, hd.keep (fun _ h => h) (fun g hg => heap_alloc_old w.drew _ g (hI.sb g hg)), fun j v hv => ?_⟩
          have h1 := hc j v hv
          rw [hbr]
          simp only [Nat.zero_add, List.getElem?_toArray]
          rw [List.getElem?_append_left (List.getElem?_eq_some_iff.1 h1).1]
          exact h1
      obtain ⟨i2, k2⟩ := i1.1.new' hL (.cells (bytesRow ⟨s.toArray⟩ cap) te ((bytesRow ⟨s.toArray⟩ cap).size, (bytesRow ⟨s.toArray⟩ cap).size + 1)) rfl hb
      refine ⟨_, _, _, _, S, _, hrun, .own (p := ⟨w.heap.size, 0, cap, 1, (bytesI s).length⟩) (by simp [placeF]) (by simp [bytesI]) (fun _ => rfl), i2, i1.2.trans k2, h⟩
    · cases h
  · rename_i s hk
    obtain ⟨hs, h⟩ := ite_some h
    obtain ⟨d, hd, hd2⟩ := under_any hτ hs
    have hu : P.underlying dst = some .string := by have := (under hτ hk (by simp)).kind; rw [hk] at this; exact this
    rw [hx.str_inv]
    refine ⟨_, _, m, F, S, w, ?_, .str (s := s), hI, .refl _ _ _, h⟩
    cases d <;> simp [convert, run_underlying hd, run_underlying hu] at hd2 ⊢
  · rename_i hk
    split at h
    · rename_i te hk2
      split at h
      · rename_i hk3
        have hu : P.underlying dst = some .string := by have := (under hτ hk (by simp)).kind; rw [hk] at this; exact this
        have hu2 : P.underlying src = some (.slice te) := by have := (under hτ hk2 (by simp)).kind; rw [hk2] at this; exact this
        have hu3 : P.underlying te = some (.int .u8) := by have := (under hτ hk3 (by simp)).kind; rw [hk3] at this; exact this
        obtain ⟨a, rfl⟩ := hx.nil_inv
        refine ⟨_, _, m, F, S, w, ?_, .str (s := []), hI, .refl _ _ _, h⟩
        rw [run_convert_bytes_string w src dst te a 0 0 hu2 hu3 hu]
        cases a <;> simp [Conv.bytesToString, loadCells, loadCellsFrom] <;> rfl
      · cases h
    · cases h
  · rename_i v hk _ _
    split at h
    · rename_i te hk2
      split at h
      · rename_i hk3
        split at h
        · rename_i xs hel
          have hu : P.underlying dst = some .string := by have := (under hτ hk (by simp)).kind; rw [hk] at this; exact this
          have hu2 : P.underlying src = some (.slice te) := by have := (under hτ hk2 (by simp)).kind; rw [hk2] at this; exact this
          have hu3 : P.underlying te = some (.int .u8) := by have := (under hτ hk3 (by simp)).kind; rw [hk3] at this; exact this
          obtain ⟨a, cap, rfl, hc, hr⟩ := elems_sound hI hx hel
          refine ⟨_, _, m, F, S, w, ?_, .str (s := toStr xs), hI, .refl _ _ _, h⟩
          rw [run_convert_bytes_string w src dst te a _ _ hu2 hu3 hu]
          rcases hr with rfl | ⟨g, o, news, rfl, hrc, hcell⟩
          · cases a <;> simp [Conv.bytesToString, loadCells, loadCellsFrom, toStr] <;> rfl
          · have hnews : news = xs.map (Value.int .u8) := by
              apply List.ext_getElem?
              intro i
              have hl : news.length = xs.length := by simpa [Ty.sz] using hrc.1
              rw [List.getElem?_map]
              cases hi : xs[i]? with
              | none =>
                rw [List.getElem?_eq_none_iff] at hi
                rw [List.getElem?_eq_none (by omega)]
                rfl
              | some x =>
                obtain ⟨ec, hd, hc'⟩ := hrc.2 i x hi
                simp only [RepD] at hd
                subst hd
                have := hc' 0 _ rfl
                simpa [Ty.sz] using this
            have hl := run_loadCells_list (P := P) w ⟨g, o, none⟩ (xs.map (Value.int .u8)) (fun j v hj => by
              rw [← hnews] at hj
              rw [Addr.add_lit]
              exact hcell j v hj)
            simp only [List.length_map] at hl
            rw [run_bytesToString w _ _ cap _ hl, foldl_push_ints]
            have he0 : ByteArray.empty.data = #[] := rfl
            rw [he0]
            simp
        · cases h
      · cases h
    · cases h
  · cases h
theorem lenT_sound (hτ : TOK P τ) (hI : Inv w0 O F S w m) {t ty : TypeId} {x : V} {ux : Value} {n : Int} (hx : VRep F S w x ux) (h : lenT τ m t x = some n) : (Builtin.len_ #[t] ty #[ux]).run P w = .ok (.int .i64 n) w := by
  unfold lenT at h
  split at h
  · rename_i s hk
    cases h
    have hu : P.underlying t = some .string := by have := (under hτ hk (by simp)).kind; rw [hk] at this; exact this
    rw [hx.str_inv]
    have hsz : (⟨s.toArray⟩ : ByteArray).size = s.length := by simp [ByteArray.size]
    simp [Builtin.len_, run_underlying hu, goInt, hsz]
  · cases h
  · cases h
  · rename_i te hk _
    have hu : P.underlying t = some (.slice te) := by have := (under hτ hk (by simp)).kind; rw [hk] at this; exact this
    have key : ∃ a l c, ux = .slice a l c ∧ n = (l : Int) := by
      unfold lenV at h
      split at h
      · simp_all
      · cases h
        obtain ⟨a, c, rfl, _⟩ := hx.sl_inv
        exact ⟨_, _, _, rfl, rfl⟩
      · cases h
        obtain ⟨a, rfl⟩ := hx.nil_inv
        exact ⟨_, _, _, rfl, rfl⟩
      · cases h
        obtain ⟨p, a, l, hf, hn, ha, rfl⟩ := hx.own_inv
        simp only at hn
        exact ⟨_, _, _, rfl, by omega⟩
      · obtain ⟨p, a, l, hf, hn, ha, rfl⟩ := hx.own_inv
        simp only at hn
        obtain ⟨_, h2⟩ := own_cap hI hf h
        exact ⟨_, _, _, rfl, by omega⟩
      · cases h
    obtain ⟨a, l, c, rfl, rfl⟩ := key
    simp [Builtin.len_, run_underlying hu, goInt]
  · cases h
end
end Go.Vi

/-
  Vi, part 14: literals of structs, tuples, functions; min and max.
-/
namespace Go.Vi
open Go
section
variable {R : Type} {F : Nat → Option Pl} {S : Nat → Prop} {w w0 : World} {O : Nat → Prop} {m : Mem} {P : Program} {τ : Tau} {L : At}
theorem foldl_set : ∀ (vs : List Value) (k off : Nat) (cells : Array Value), off + k + vs.length ≤ cells.size →
    ((vs.zipIdx k).foldl (fun cs (x : Value × Nat) => cs.setIfInBounds (off + x.2) x.1) cells).toList = cells.toList.take (off + k) ++ vs ++ cells.toList.drop (off + k + vs.length)
  | [], k, off, cells, h => by simp
  | v :: vs, k, off, cells, h => by
    simp only [List.zipIdx_cons, List.foldl_cons]
    rw [foldl_set vs (k + 1) off _ (by simp at h ⊢; omega)]
    apply List.ext_getElem?
    intro i
    have e1 := splice_get (cells.setIfInBounds (off + k) v).toList vs (off + (k + 1)) i (by simp at h ⊢; omega)
    have e2 := splice_get cells.toList (v :: vs) (off + k) i (by simp at h ⊢; omega)
    rw [e1, e2]
    have hk : off + k < cells.size := by simp at h; omega
    simp only [Array.toList_setIfInBounds, List.length_cons, List.getElem?_set, Array.length_toList]
    rcases Nat.lt_trichotomy i (off + k) with hi | hi | hi
    · rw [if_pos (show i < off + (k + 1) by omega), if_pos hi, if_neg (show ¬ off + k = i by omega)]
    · subst hi
      rw [if_pos (show off + k < off + (k + 1) by omega), if_neg (show ¬ off + k < off + k by omega), if_pos (show off + k < off + k + (vs.length + 1) by omega), if_pos rfl, if_pos hk]
      simp
    · rw [if_neg (show ¬ i < off + (k + 1) by omega), if_neg (show ¬ i < off + k by omega)]
      by_cases h2 : i < off + (k + 1) + vs.length
      · rw [if_pos h2, if_pos (show i < off + k + (vs.length + 1) by omega), show i - (off + k) = (i - (off + (k + 1))) + 1 by omega]
        simp
      · rw [if_neg h2, if_neg (show ¬ i < off + k + (vs.length + 1) by omega), if_neg (show ¬ off + k = i by omega)]
theorem buildC_sound {fs : List (Nat × TypeId)} {place : Nat → Option (Nat × Nat)} (hp : ∀ i o u, fs[i]? = some (o, u) → (τ u).known = true → place i = some (o, (τ u).sz)) : ∀ {ps : List (Nat × V)} {us : List (Nat × Value)} {cs cs' : List V} {cells : Array Value},
    ps.map (·.1) = us.map (·.1) → VReps F S w (ps.map (·.2)) (us.map (·.2)) → VReps F S w cs cells.toList → (∀ u ∈ cells, u.oneCell' = true) → buildC τ fs cs ps = some cs' →
    ∃ cells', Instr.fill place cells us = some cells' ∧ VReps F S w cs' cells'.toList ∧ ∀ u ∈ cells', u.oneCell' = true
  | [], us, cs, cs', cells, hi, hv, hc, h1, h => by
    have : us = [] := by cases us with | nil => rfl | cons u us => simp at hi
    subst this
    cases h
    exact ⟨cells, rfl, hc, h1⟩
  | p :: ps, [], cs, cs', cells, hi, hv, hc, h1, h => by simp at hi
  | p :: ps, q :: us, cs, cs', cells, hi, hv, hc, h1, h => by
    simp only [List.map_cons, List.cons.injEq] at hi hv
    obtain ⟨x, xs, he, hx, hxs⟩ := hv.head
    simp only [List.cons.injEq] at he
    obtain ⟨rfl, rfl⟩ := he
    simp only [buildC] at h
    split at h
    · rename_i o u hf
      obtain ⟨⟨hkn, hpl, hsz, hle⟩, h⟩ := ite_some h
      obtain ⟨hr, hr1⟩ := hx.cells_rep hpl
      have hl1 : q.2.cells.size = p.2.cells.length := by simpa using hr.len.symm
      have hl2 : cs.length = cells.size := by simpa using hc.len
      obtain ⟨k, v⟩ := q
      have hk : p.1 = k := hi.1
      have hpk : place k = some (o, (τ u).sz) := hp k o u (by rw [← hk]; exact hf) hkn
      have hset := foldl_set v.cells.toList 0 o cells (by simp at hl1 ⊢; omega)
      have hzip : v.cells.zipIdx.foldl (fun cs (x : Value × Nat) => cs.setIfInBounds (o + x.2) x.1) cells = ((v.cells.toList.zipIdx 0).foldl (fun cs (x : Value × Nat) => cs.setIfInBounds (o + x.2) x.1) cells) := by
        rw [← Array.foldl_toList]
        congr 1
        simp
      obtain ⟨cells', g1, g2, g3⟩ := buildC_sound hp (cells := v.cells.zipIdx.foldl (fun cs (x : Value × Nat) => cs.setIfInBounds (o + x.2) x.1) cells) hi.2 hxs (by
        rw [hzip, hset]
        simpa using splice_rep (off := o) hc hr) (fun u hu => by
        have hu' : u ∈ (v.cells.zipIdx.foldl (fun cs (x : Value × Nat) => cs.setIfInBounds (o + x.2) x.1) cells).toList := by simpa using hu
        rw [hzip, hset] at hu'
        simp only [List.mem_append] at hu'
        rcases hu' with (hu' | hu') | hu'
        · exact h1 u (by simpa using List.mem_of_mem_take hu')
        · exact hr1 u (by simpa using hu')
        · exact h1 u (by simpa using List.mem_of_mem_drop hu')) h
      refine ⟨cells', ?_, g2, g3⟩
      simp only [Instr.fill, hpk]
      rw [if_neg (by simp at hl1 ⊢; omega)]
      exact g1
    · cases h
theorem buildV_sound (hτ : TOK P τ) {t : TypeId} {parts : List (Nat × V)} {us : List (Nat × Value)} {K : V → Option R} {r : R} (hi : parts.map (·.1) = us.map (·.1)) (hv : VReps F S w (parts.map (·.2)) (us.map (·.2)))
    (h : buildV τ t parts K = some r) : ∃ v u, (Instr.build t us.toArray).run P w = .ok u w ∧ VRep F S w v u ∧ K v = some r := by
  unfold buildV at h
  split at h
  · rename_i fs z hk hz
    split at h
    · rename_i cs hb
      have hok := under hτ hk (by simp)
      have hkk := hok.kind
      rw [hk] at hkk
      obtain ⟨fields, hu, hfs, hne⟩ := hkk
      obtain ⟨i, zv, hinfo, hzv, hzi, hzl⟩ := hok.zero z hz
      obtain ⟨hr, h1⟩ := zeroIs_rep (F := F) (S := S) (w := w) hzi
      have hplaces : fields.toList.mapM (fun f => (P.info? f.type).map fun i => (f.offset, i.size)) = some (fields.toList.map fun f => (f.offset, P.cellsOf f.type)) := by
        have : ∀ l : List Field, (∀ f ∈ l, P.cellsOf f.type ≠ 0) → l.mapM (fun f => (P.info? f.type).map fun i => (f.offset, i.size)) = some (l.map fun f => (f.offset, P.cellsOf f.type)) := by
          intro l
          induction l with
          | nil => intro _; rfl
          | cons f l ih =>
            intro hl
            have hf := hl f (by simp)
            have ih := ih (fun g hg => hl g (by simp [hg]))
            cases hq : P.info? f.type with
            | none => simp [Program.cellsOf, hq] at hf
            | some j => simp [List.mapM_cons, hq, ih, Program.cellsOf]
        exact this _ (fun f hf => hne f (by simpa using hf))
      obtain ⟨cells', g1, g2, g3⟩ := buildC_sound (τ := τ) (fs := fs) (place := fun x => ((fields.toList.map fun f => (f.offset, P.cellsOf f.type)).toArray)[x]?) (fun j o u hj hkn => by
        rw [hfs] at hj
        simp only [List.getElem?_map, Option.map_eq_some_iff] at hj
        obtain ⟨f, hf, hfe⟩ := hj
        cases hfe
        obtain ⟨i', hi', hs', _⟩ := (hτ _ hkn).info
        simp only [List.getElem?_toArray, List.getElem?_map, hf, Option.map_some, Program.cellsOf, hi', Option.getD_some, hs']) hi hv hr (fun u hu => h1 u (by simpa using hu)) hb
      refine ⟨_, .agg cells', run_build w t us.toArray cells' ?_, ?_, h⟩
      · simp only [Program.built, hinfo, hu, hzv, hplaces]
        exact g1
      · have := VRep.of_agg g2 (fun c hc => g3 c (by simpa using hc))
        simpa using this
    · cases h
  · cases h
theorem fold_run {g : Value → Value → Sem Value} {f : Int → Int → Int} (hg : ∀ k x k' y, g (.int k x) (.int k' y) = pure (.int k (f x y))) (k : IntKind) : ∀ {vs : List V} {us : List Value} {a n : Int}, VReps F S w vs us → foldI f k a vs = some n → (us.foldlM g (.int k a)).run P w = .ok (.int k n) w
  | [], us, a, n, hv, h => by
    rw [hv.nil_inv]
    cases h
    rfl
  | v :: vs, us, a, n, hv, h => by
    obtain ⟨u, us', rfl, h0, h1⟩ := hv.head
    unfold foldI at h
    split at h
    · rename_i h2; cases h2
    · rename_i k' b vs' h2
      cases h2
      obtain ⟨rfl, h⟩ := ite_some h
      rw [h0.int_inv]
      have := fold_run hg k' h1 h
      simp only [List.foldlM_cons, hg, pure_bind]
      exact this
    · cases h
end
end Go.Vi

/-
  Vi, part 15: every operation.
-/
namespace Go.Vi
open Go
abbrev R0 := V × Mem
def K0 : V → Mem → Option R0 := fun v m => some (v, m)
def pr {R : Type} (K : V → Mem → Option R) : V × Mem → Option R := fun x => K x.1 x.2
theorem of_nat {x : Option R0} {y : Option R0} {K : V → Mem → Option R0} {r : R0} (h : y = x.bind (pr K)) (hy : y = some r) : ∃ v m', x = some (v, m') ∧ K v m' = some r := by
  cases x with
  | none => rw [hy] at h; cases h
  | some p => exact ⟨p.1, p.2, rfl, by rw [hy] at h; exact h.symm⟩
/-- a call of a function, be it Go or be it the library's -/
def FCalls (P : Program) (g : FuncId) (args : Array Value) (w : World) (R : Value → World → Prop) : Prop :=
  ((callFunc g args).run P w = .ok (.enter g args) w ∧ Calls P g args w fun e w' => match e with | .returned u => R u w' | _ => False) ∨
  ∃ u w', (callFunc g args).run P w = .ok (.value u) w' ∧ R u w'
/-- what is known of callees holds of the program -/
structure GamOk (P : Program) (Γ : Gam R0) : Prop where
  nat : ∀ g L args m K, Γ g L args m K = (Γ g L args m K0).bind (pr K)
  ok : ∀ g L args m v m' w0 O F S w us, Γ g L args m K0 = some (v, m') → Inv w0 O F S w m → AtOk L F m → VReps F S w args us →
    FCalls P g us.toArray w fun u w' => ∃ F' S', VRep F' S' w' v u ∧ Inv w0 O F' S' w' m' ∧ Keep F S w F' S' w'
section
variable {F : Nat → Option Pl} {S : Nat → Prop} {w w0 : World} {O : Nat → Prop} {m : Mem} {P : Program} {τ : Tau} {L : At} {Γ : Gam R0}
/-- what follows an operation -/
def Next (w0 : World) (O : Nat → Prop) (F : Nat → Option Pl) (S : Nat → Prop) (w : World) (K : V → Mem → Option R0) (r : R0) (f : Value → World → Prop) : Prop :=
  ∀ v u m' F' S' w', VRep F' S' w' v u → Inv w0 O F' S' w' m' → Keep F S w F' S' w' → K v m' = some r → f u w'
theorem wp_ends {o : Oper} {a : Act} {next : Act → World → Prop} {Q : Exit → Act → World → Prop} {K : V → Mem → Option R0} {r : R0} {x : Sem Value} (he : execOp a.eval o = (do pure (.value (← x)))) (h : Ends P w0 O F S w K r x)
    (hn : Next w0 O F S w K r fun u w' => next (a.put o.dst u) w') : o.wp P a w next Q := by
  obtain ⟨v, u, m', F', S', w', hr, hv, hi, hk, hK⟩ := h
  refine wp_value (u := u) (w' := w') ?_ (hn v u m' F' S' w' hv hi hk hK)
  rw [he, Sem.run_bind, hr]
  rfl
theorem Ends.same {K : V → Option R0} {r : R0} {x : Sem Value} {K' : V → Mem → Option R0} (hK : ∀ v, K' v m = K v) (hI : Inv w0 O F S w m) (h : ∃ v u, x.run P w = .ok u w ∧ VRep F S w v u ∧ K v = some r) : Ends P w0 O F S w K' r x := by
  obtain ⟨v, u, hr, hv, hk⟩ := h
  exact ⟨v, u, m, F, S, w, hr, hv, hI, .refl _ _ _, by rw [hK]; exact hk⟩
theorem Ends.val {K : V → Mem → Option R0} {r : R0} {v : V} {u : Value} (hI : Inv w0 O F S w m) (hv : VRep F S w v u) (h : K v m = some r) : Ends P w0 O F S w K r (pure u) :=
  ⟨v, u, m, F, S, w, rfl, hv, hI, .refl _ _ _, h⟩
theorem SR.evs {s : List V} {a : Act} (hs : SR F S w s a) (l : List Operand) : VReps F S w (l.map (ev s)) (l.map a.eval) :=
  ⟨by simp, fun i v u hv hu => by
    rw [List.getElem?_map] at hv hu
    cases hi : l[i]? with
    | none => simp [hi] at hv
    | some x =>
      simp [hi] at hv hu
      subst hv hu
      exact ev_rep hs x⟩
theorem opV_sound (hτ : TOK P τ) (hΓ : GamOk P Γ) {o : Oper} {s : List V} {a : Act} {next : Act → World → Prop} {Q : Exit → Act → World → Prop} {K : V → Mem → Option R0} {r : R0} (hI : Inv w0 O F S w m) (hL : AtOk L F m) (hs : SR F S w s a)
    (h : opV τ Γ L s m o.op K = some r) (hn : Next w0 O F S w K r fun u w' => next (a.put o.dst u) w') : o.wp P a w next Q := by
  obtain ⟨dst, op, type, pos, after, guard⟩ := o
  simp only at h hn
  unfold opV at h
  split at h
  · exact wp_ends rfl (Ends.val hI (ev_rep hs _) h) hn
  · exact wp_ends rfl (Ends.val hI (ev_rep hs _) h) hn
  · rename_i c x y
    have hc := ev_rep hs c
    split at h
    · rename_i b hb
      have hcb : a.eval c = .bool b := by
        unfold isTrue at hb
        split at hb
        · rename_i hv; cases hb; rw [hv] at hc; exact hc.bool_inv
        · cases hb
      refine wp_value (u := if b then a.eval x else a.eval y) (w' := w) ?_ ?_
      · simp [execOp, hcb, asBool]
      · cases b
        · exact hn _ _ _ _ _ _ (ev_rep hs y) hI (.refl _ _ _) h
        · exact hn _ _ _ _ _ _ (ev_rep hs x) hI (.refl _ _ _) h
    · cases h
  · rename_i op t x y _
    exact wp_ends rfl (Ends.same (fun _ => rfl) hI (binV_sound hτ t x y (ev_rep hs x) (ev_rep hs y) h)) hn
  · exact wp_ends rfl (Ends.same (fun _ => rfl) hI (unV_sound (ev_rep hs _) h)) hn
  · exact wp_ends rfl (Ends.same (fun _ => rfl) hI (indexAddrV_sound hτ hI (ev_rep hs _) (ev_rep hs _) h)) hn
  · exact wp_ends rfl (Ends.same (fun _ => rfl) hI (indexV_sound hτ (ev_rep hs _) (ev_rep hs _) h)) hn
  · exact wp_ends rfl (Ends.same (fun _ => rfl) hI (fieldAddrV_sound hτ (ev_rep hs _) h)) hn
  · exact wp_ends rfl (Ends.same (fun _ => rfl) hI (fieldV_sound hτ (ev_rep hs _) h)) hn
  · exact wp_ends rfl (Ends.same (fun _ => rfl) hI (loadV_sound hτ hI (ev_rep hs _) h)) hn
  · rename_i t p x
    obtain ⟨m', w', hr, hi, hk, hK⟩ := storeV_sound hτ hI (ev_rep hs p) (ev_rep hs x) h
    refine wp_skip' (w' := w') ?_ (hn _ _ _ _ _ _ .junk hi hk hK)
    simp [execOp, hr]
  · rename_i t x lo hi
    refine wp_ends rfl (sliceV_sound hτ hI hL (ev_rep hs x) (lo := lo.map (ev s)) (hi := hi.map (ev s)) ?_ ?_ h) hn
    · cases lo with
      | none => trivial
      | some x => exact ev_rep hs x
    · cases hi with
      | none => trivial
      | some x => exact ev_rep hs x
  · exact wp_ends rfl (convV_sound hτ hI hL (ev_rep hs _) h) hn
  · exact wp_ends rfl (alloc_sound hτ hI hL h) hn
  · exact wp_ends rfl (box_sound hI hL (ev_rep hs _) h) hn
  · rename_i t parts
    have he : (parts.map fun p => (p.1, a.eval p.2)) = (parts.toList.map fun p => (p.1, a.eval p.2)).toArray := Array.ext' (by simp)
    refine wp_ends (x := Instr.build t (parts.toList.map fun p => (p.1, a.eval p.2)).toArray) ?_ (Ends.same (fun _ => rfl) hI (buildV_sound hτ ?_ ?_ h)) hn
    · simp only [execOp, ← he]
    · simp
    · have := hs.evs (parts.toList.map (·.2))
      rw [List.map_map, List.map_map] at this ⊢
      exact this
  · rename_i t n parts
    have he : (parts.map fun p => (p.1, a.eval p.2)) = (parts.toList.map fun p => (p.1, a.eval p.2)).toArray := Array.ext' (by simp)
    refine wp_ends (x := Instr.buildSlice t n (parts.toList.map fun p => (p.1, a.eval p.2)).toArray) ?_ (buildSliceV_sound hτ hI hL ?_ ?_ h) hn
    · simp only [execOp, ← he]
    · simp
    · have := hs.evs (parts.toList.map (·.2))
      rw [List.map_map, List.map_map] at this ⊢
      exact this
  · exact wp_ends rfl (makeV_sound hτ hI hL (ev_rep hs _) (ev_rep hs _) h) hn
  · rename_i f first captured
    refine wp_ends (x := Instr.makeFunc f (first.map a.eval) (captured.map a.eval)) rfl (Ends.val hI ?_ h) hn
    have h1 := hs.evs first.toList
    have h2 := hs.evs captured.toList
    exact .fn (by simp) (by simp) (fun i v u hv hu => h1.at_ i v u hv (by simpa using hu)) (fun i v u hv hu => h2.at_ i v u hv (by simpa using hu))
  · rename_i x i
    have hx := ev_rep hs x
    split at h
    · rename_i vs hv
      rw [hv] at hx
      obtain ⟨us, hu, hr⟩ := hx.tup_inv
      split at h
      · rename_i v hvi
        obtain ⟨u, hui, hvu⟩ := hr.get hvi
        refine wp_value (u := u) (w' := w) ?_ (hn _ _ _ _ _ _ hvu hI (.refl _ _ _) h)
        have hui' : us[i]? = some u := by simpa using hui
        simp [execOp, hu, Instr.extract, hui']
      · cases h
    · cases h
  · rename_i x
    have hx := ev_rep hs x
    have key : ∀ v, ev s x = v → K v m = some r → (∃ p, a.eval x = .pointer (some p)) ∨ (∃ g b c, a.eval x = .func (.func g) b c) → Oper.wp P ⟨dst, .nilCheck x, type, pos, after, guard⟩ a w next Q := by
      intro v hv hK hp
      refine wp_value (u := a.eval x) (w' := w) ?_ (hn _ _ _ _ _ _ (hv ▸ hx) hI (.refl _ _ _) hK)
      rcases hp with ⟨p, hp⟩ | ⟨g, b, c, hp⟩ <;> simp [execOp, hp]
    split at h
    · rename_i hv
      rw [hv] at hx
      obtain ⟨p, _, hp⟩ := hx.ref_inv
      exact key _ hv h (.inl ⟨_, hp⟩)
    · rename_i hv
      rw [hv] at hx
      cases hp : a.eval x <;> rw [hp] at hx <;> cases hx
      exact key _ hv h (.inl ⟨_, hp⟩)
    · rename_i hv
      rw [hv] at hx
      obtain ⟨p, _, _, _, hp⟩ := hx.eo_inv
      exact key _ hv h (.inl ⟨_, hp⟩)
    · rename_i hv
      rw [hv] at hx
      cases hp : a.eval x <;> rw [hp] at hx <;> cases hx
      exact key _ hv h (.inr ⟨_, _, _, hp⟩)
    · cases h
  · rename_i c
    unfold callV at h
    split at h
    · rename_i hc
      split at h
      · rename_i x t hx ht
        split at h
        · rename_i n hlen
          have hx' : c.args = #[x] := by apply Array.ext'; simpa using hx
          have ht' : c.argTypes = #[t] := by apply Array.ext'; simpa using ht
          refine wp_value (u := .int .i64 n) (w' := w) ?_ (hn _ _ _ _ _ _ .int hI (.refl _ _ _) h)
          have := lenT_sound (ty := type) hτ hI (ev_rep hs x) hlen
          simp [execOp, resolve, hc, invoke, builtin, hx', ht', this]
        · cases h
      · cases h
    · rename_i hc
      split at h
      · rename_i k n vs hvs
        split at h
        · rename_i q hq
          have h1 := hs.evs c.args.toList
          rw [hvs] at h1
          obtain ⟨u, us, hu, hn0, hrest⟩ := h1.head
          obtain ⟨n, rfl⟩ : ∃ j : Int, j = n := ⟨n, rfl⟩
          rw [hn0.int_inv] at hu
          have hrun := fold_run (P := P) (g := Builtin.min2) (f := mnI) (fun _ _ _ _ => rfl) k hrest hq
          refine wp_value (u := .int k q) (w' := w) ?_ (hn _ _ _ _ _ _ .int hI (.refl _ _ _) h)
          simp [execOp, resolve, hc, invoke, builtin, Builtin.min_, hu, hrun]
        · cases h
      · cases h
    · rename_i hc
      split at h
      · rename_i k n vs hvs
        split at h
        · rename_i q hq
          have h1 := hs.evs c.args.toList
          rw [hvs] at h1
          obtain ⟨u, us, hu, hn0, hrest⟩ := h1.head
          obtain ⟨n, rfl⟩ : ∃ j : Int, j = n := ⟨n, rfl⟩
          rw [hn0.int_inv] at hu
          have hrun := fold_run (P := P) (g := Builtin.max2) (f := mxI) (fun _ _ _ _ => rfl) k hrest hq
          refine wp_value (u := .int k q) (w' := w) ?_ (hn _ _ _ _ _ _ .int hI (.refl _ _ _) h)
          simp [execOp, resolve, hc, invoke, builtin, Builtin.max_, hu, hrun]
        · cases h
      · cases h
    · rename_i hc
      split at h
      · rename_i x y t t' hx ht
        have hx' : c.args = #[x, y] := by apply Array.ext'; simpa using hx
        have ht' : c.argTypes = #[t, t'] := by apply Array.ext'; simpa using ht
        refine wp_ends (x := Builtin.append_ #[t, t'] type #[a.eval x, a.eval y]) ?_ (appendV_sound hτ hI hL (ev_rep hs x) (ev_rep hs y) h) hn
        simp [execOp, resolve, hc, invoke, builtin, hx', ht']
      · cases h
    · rename_i f hc
      have hf := ev_rep hs f
      split at h
      · rename_i g first captured hv
        rw [hv] at hf
        obtain ⟨v, m', hg, hK⟩ := of_nat (hΓ.nat _ _ _ _ _) h
        obtain ⟨us1, us2, hp, h1, h2⟩ := hf.fn_inv
        have h3 := (h1.append (hs.evs c.args.toList)).append h2
        have hcall := hΓ.ok _ _ _ _ _ _ _ _ _ _ _ _ hg hI hL h3
        have harr : (us1.toList ++ c.args.toList.map a.eval ++ us2.toList).toArray = us1 ++ c.args.map a.eval ++ us2 := Array.ext' (by simp)
        rw [harr] at hcall
        have hex : execOp a.eval ⟨dst, .call c, type, pos, after, guard⟩ = callFunc g (us1 ++ c.args.map a.eval ++ us2) := by
          simp [execOp, resolve, hc, hp, Deferred.ofValue, invoke]
        rcases hcall with ⟨hr, hcs⟩ | ⟨u, w', hr, F', S', hv', hi', hk'⟩
        · unfold Oper.wp
          rw [hex, hr]
          refine Calls.mono hcs fun e w'' he => ?_
          cases e with
          | returned u =>
            obtain ⟨F', S', hv', hi', hk'⟩ := he
            exact hn _ _ _ _ _ _ hv' hi' hk' hK
          | panicked c => exact he.elim
          | outgrown => exact he.elim
        · exact wp_value (by rw [hex]; exact hr) (hn _ _ _ _ _ _ hv' hi' hk' hK)
      · cases h
    · cases h
  · cases h
end
end Go.Vi
