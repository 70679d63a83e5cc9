/- Plain laws of hunts: who is named, and who gets which variant, after a variant is heard. No program is in sight here. -/
import Derived.Test.YtoegpalacppllaaHp3
namespace Go.Proofs.Ytoegpalacppllaa.Hn

/-- the users who get a variant -/
def sideOf (h : Hu) (x : Nat) : LI := if x = 0 then h.rest else h.ps.getD (x - 1) []
theorem named_heard (h : Hu) (x : Nat) : (heard h x).named = if (sideOf h x).length = 1 then merged h.named (sideOf h x) else h.named := by
  unfold heard sideOf
  by_cases hx : x = 0
  · simp [hx]
  · simp [hx]
theorem users_heard (h : Hu) (x : Nat) : (heard h x).users = h.users := by
  unfold heard; split <;> rfl
theorem rounds_heard (h : Hu) (x : Nat) : (heard h x).rounds = h.rounds + 1 := by
  unfold heard; split <;> rfl

theorem side_mem {h : Hu} {x : Nat} (hx : x ≠ 0) (hl : x ≤ h.ps.length) : h.ps[x - 1]? = some (sideOf h x) := by
  have h1 : x - 1 < h.ps.length := by omega
  simp [sideOf, hx, h1]
section
variable {h : Hu} (v : Valid h)
include v
theorem Valid.var_side {x : Nat} (hl : x ≤ h.ps.length) {u : Int} (hu : u ∈ sideOf h x) : variantB h u = x := by
  by_cases hx : x = 0
  · subst hx
    have hu' : u ∈ h.rest := by simpa [sideOf] using hu
    rw [varF_no fun l hl hul => v.rest_side hl hul hu']
    have := v.rest_named hu'
    simp [this]
  · rw [v.varF_at (side_mem hx hl) hu]; omega
theorem Valid.side_range {x : Nat} (hl : x ≤ h.ps.length) {u : Int} (hu : u ∈ sideOf h x) : 0 ≤ u ∧ u < h.users := by
  by_cases hx : x = 0
  · subst hx
    exact users_mem v.rest (by simpa [sideOf] using hu)
  · exact v.user_side (List.mem_of_getElem? (side_mem hx hl)) hu
theorem Valid.side_of_var {x : Nat} (hl : x ≤ h.ps.length) {u : Int} (h0 : 0 ≤ u) (h1 : u < h.users) (he : variantB h u = x) : u ∈ sideOf h x := by
  by_cases hs : ∃ l ∈ h.ps, u ∈ l
  · obtain ⟨l, hm, hu⟩ := hs
    obtain ⟨i, hi⟩ := List.getElem?_of_mem hm
    rw [v.varF_at hi hu] at he
    have hx : x = i + 1 := by omega
    subst hx
    have := side_mem (x := i + 1) (by omega) hl
    simp only [Nat.add_sub_cancel] at this
    rw [hi] at this
    injection this with this
    rw [← this]; exact hu
  · have hno : ∀ l ∈ h.ps, u ∉ l := fun l hl hu => hs ⟨l, hl, hu⟩
    rw [varF_no hno] at he
    by_cases hn : u ∈ h.named
    · simp [hn] at he
    · simp [hn] at he
      obtain rfl : x = 0 := by omega
      rcases v.cover u h0 h1 with hr | hr | ⟨l, hl, hr⟩
      · simpa [sideOf] using hr
      · exact absurd hr hn
      · exact absurd hr (hno l hl)
theorem Valid.side_disj {x : Nat} (hl : x ≤ h.ps.length) : (h.named ++ sideOf h x).Nodup := by
  refine List.nodup_append.2 ⟨users_nodup v.named, ?_, fun a ha b hb e => ?_⟩
  · by_cases hx : x = 0
    · subst hx; simpa [sideOf] using users_nodup v.rest
    · exact users_nodup (v.ps _ (List.mem_of_getElem? (side_mem hx hl))).1
  · subst e
    by_cases hx : x = 0
    · subst hx; exact v.rest_named (by simpa [sideOf] using hb) ha
    · exact v.named_side (List.mem_of_getElem? (side_mem hx hl)) hb ha
/-- who is named -/
theorem Valid.whole {x : Nat} (hl : x ≤ h.ps.length) : (∀ u ∈ h.named, u ∈ (heard h x).named) ∧ ((heard h x).named.length = h.named.length ∨ (heard h x).named.length = h.named.length + 1) ∧
    ∀ u ∈ (heard h x).named, u ∉ h.named → 0 ≤ u ∧ u < h.users ∧ variantB h u = x := by
  rw [named_heard]
  have h64 := v.u2
  have hr : ∀ u ∈ h.named ++ sideOf h x, 0 ≤ u ∧ u < 64 := fun u hu => by
    rcases List.mem_append.1 hu with hu | hu
    · have := users_mem v.named hu; omega
    · have := v.side_range hl hu; omega
  by_cases h1 : (sideOf h x).length = 1
  · simp only [h1, if_true]
    refine ⟨fun u hu => mem_merged.2 ⟨hr u (by simp [hu]), .inl hu⟩, .inr ?_, fun u hu hn => ?_⟩
    · rw [(merged_perm (v.side_disj hl) hr).length_eq, List.length_append, h1]
    · rcases (mem_merged.1 hu).2 with hu | hu
      · exact absurd hu hn
      · exact ⟨(v.side_range hl hu).1, (v.side_range hl hu).2, v.var_side hl hu⟩
  · simp only [h1, if_false]
    exact ⟨fun u hu => hu, .inl trivial, fun u hu hn => absurd hu hn⟩
/-- the users who get a variant, in order -/
theorem Valid.side_filter {x : Nat} (hl : x ≤ h.ps.length) : (rangeI h.users.toNat).filter (fun u => decide (variantB h u = x)) = sideOf h x := by
  refine up_ext ?_ ?_ fun u => ?_
  · refine List.Pairwise.filter _ ?_
    rw [rangeI, List.pairwise_map]
    exact List.pairwise_lt_range.imp fun h => by omega
  · by_cases hx : x = 0
    · subst hx; simpa [sideOf] using users_up v.rest
    · exact users_up (v.ps _ (List.mem_of_getElem? (side_mem hx hl))).1
  · simp only [List.mem_filter, mem_rangeI, decide_eq_true_eq]
    constructor
    · rintro ⟨⟨h0, h1⟩, he⟩; exact v.side_of_var hl h0 (by omega) he
    · intro hu
      have := v.side_range hl hu
      exact ⟨⟨this.1, by omega⟩, v.var_side hl hu⟩
end

/-- where a user is, in a valid hunt, by his variant -/
theorem Valid.var_at {h : Hu} (v : Valid h) {j : Nat} {l : LI} {u : Int} (hj : h.ps[j]? = some l) (hu : u ∈ l) : variantB h u = (j : Int) + 1 := v.varF_at hj hu
theorem Valid.var_rest {h : Hu} (v : Valid h) {u : Int} (hu : u ∈ h.rest) : variantB h u = 0 := by
  have := v.var_side (x := 0) (Nat.zero_le _) (u := u) (by simpa [sideOf] using hu)
  simpa using this
theorem Valid.var_named {h : Hu} (v : Valid h) {u : Int} (hu : u ∈ h.named) : variantB h u = -1 := by
  rw [varF_no fun l hl hul => v.named_side hl hul hu]
  simp [hu]

/-- the first of the two variants that those get who got the variant that was heard -/
def newAt (h : Hu) (x : Nat) : Nat := if x = 0 then h.ps.length else 2 * ((x - 1) / 2)
/-- who gets which variant -/
structure Halves (h : Hu) (x : Nat) : Prop where
  left : ∀ i, i < halfN (sideOf h x) → variantB (heard h x) (at_ (sideOf h x) i) = (newAt h x : Int) + 1
  right : ∀ i, halfN (sideOf h x) ≤ i → i < (sideOf h x).length → variantB (heard h x) (at_ (sideOf h x) i) = (newAt h x : Int) + 2
  same : ∀ u, 0 ≤ u → u < h.users → variantB h u ≠ x → 0 < variantB h u → 0 < x → (variantB h u - 1) / 2 = ((x : Int) - 1) / 2 → variantB (heard h x) u = 0
  other : ∀ u, 0 ≤ u → u < h.users → variantB h u ≠ x → ¬ (0 < variantB h u ∧ 0 < x ∧ (variantB h u - 1) / 2 = ((x : Int) - 1) / 2) → variantB (heard h x) u = variantB h u
theorem mem_take_at {l : LI} {n i : Nat} (h : i < n) (hl : i < l.length) : at_ l i ∈ l.take n := at_take h hl
theorem mem_drop_at {l : LI} {n i : Nat} (h : n ≤ i) (hl : i < l.length) : at_ l i ∈ l.drop n := by
  refine List.mem_of_getElem? (i := i - n) ?_
  rw [List.getElem?_drop, show n + (i - n) = i by omega]
  exact at_get hl
theorem halves0 {h : Hu} (v : Valid h) (v' : Valid (heard h 0)) (h2 : 2 ≤ h.rest.length) : Halves h 0 := by
  have h1 : ¬ h.rest.length = 1 := by omega
  have es : sideOf h 0 = h.rest := rfl
  have en : newAt h 0 = h.ps.length := rfl
  have eps : (heard h 0).ps = h.ps ++ [h.rest.take (halfN h.rest), h.rest.drop (halfN h.rest)] := by rw [heard_zero]; simp [h1]
  have enm : (heard h 0).named = h.named := by rw [heard_zero]; simp [h1]
  have hb := half_lt h2
  refine ⟨fun i hi => ?_, fun i hi hl => ?_, fun u _ _ _ _ h0 => by omega, fun u u0 u1 hx _ => ?_⟩
  · rw [es] at hi ⊢; rw [en]
    exact v'.var_at (l := h.rest.take (halfN h.rest)) (by rw [eps, List.getElem?_append_right (Nat.le_refl _)]; simp) (mem_take_at hi (by omega))
  · rw [es] at hi hl ⊢; rw [en]
    have := v'.var_at (j := h.ps.length + 1) (l := h.rest.drop (halfN h.rest)) (by rw [eps, List.getElem?_append_right (by omega)]; simp) (mem_drop_at hi hl)
    rw [this]; omega
  · by_cases hs : ∃ l ∈ h.ps, u ∈ l
    · obtain ⟨l, hm, hu⟩ := hs
      obtain ⟨i, hi⟩ := List.getElem?_of_mem hm
      have hlt := (List.getElem?_eq_some_iff.1 hi).1
      rw [v.var_at hi hu, v'.var_at (j := i) (l := l) (by rw [eps, List.getElem?_append_left hlt]; exact hi) hu]
    · have hno : ∀ l ∈ h.ps, u ∉ l := fun l hl hu => hs ⟨l, hl, hu⟩
      rcases v.cover u u0 u1 with hr | hr | ⟨l, hl, hr⟩
      · exact absurd (v.var_rest hr) (by simpa using hx)
      · rw [v.var_named hr, v'.var_named (by rw [enm]; exact hr)]
      · exact absurd hr (hno l hl)
theorem halvesP {h : Hu} (v : Valid h) {x i : Nat} (v' : Valid (heard h x)) (hx : x ≠ 0) (hi : (x - 1) / 2 = i) (p : Part h.ps i) (h2 : 2 ≤ (sideOf h x).length) : Halves h x := by
  have hxl : x ≤ h.ps.length := by rw [p.length]; omega
  have hlr : h.ps[2 * i]? = some p.l ∧ h.ps[2 * i + 1]? = some p.r := ⟨p.g0, p.g1⟩
  have hs : sideOf h x = if x % 2 = 1 then p.l else p.r := by
    have := side_mem hx hxl
    by_cases ho : x % 2 = 1
    · rw [show x - 1 = 2 * i by omega, hlr.1] at this
      injection this with this
      rw [if_pos ho]; exact this.symm
    · rw [show x - 1 = 2 * i + 1 by omega, hlr.2] at this
      injection this with this
      rw [if_neg ho]; exact this.symm
  have eh := heard_pair hx hi p
  rw [← hs] at eh
  obtain ⟨s, es⟩ : ∃ s, s = sideOf h x := ⟨_, rfl⟩
  obtain ⟨o, eo⟩ : ∃ o, o = if x % 2 = 1 then p.r else p.l := ⟨_, rfl⟩
  rw [← es, ← eo] at eh
  have h1 : ¬ s.length = 1 := by rw [es]; omega
  have eps : (heard h x).ps = p.A ++ s.take (halfN s) :: s.drop (halfN s) :: p.B := by rw [eh]; simp [h1]
  have enm : (heard h x).named = h.named := by rw [eh]; simp [h1]
  have erest : (heard h x).rest = merged h.rest o := by rw [eh]
  have hb := half_lt (l := s) (by rw [es]; exact h2)
  have en : newAt h x = 2 * i := by rw [newAt, if_neg hx, hi]
  have g0 : (heard h x).ps[2 * i]? = some (s.take (halfN s)) := by rw [eps, List.getElem?_append_right (by rw [p.len]; omega), p.len]; simp
  have g1 : (heard h x).ps[2 * i + 1]? = some (s.drop (halfN s)) := by rw [eps, List.getElem?_append_right (by rw [p.len]; omega), p.len, show 2 * i + 1 - 2 * i = 1 by omega]; simp
  have gj : ∀ j, j ≠ 2 * i → j ≠ 2 * i + 1 → (heard h x).ps[j]? = h.ps[j]? := fun j hj1 hj2 => by
    rw [eps]
    refine Eq.trans ?_ (congrArg (fun q : List LI => q[j]?) p.eq).symm
    rcases Nat.lt_or_ge j (2 * i) with hlt | hge
    · rw [List.getElem?_append_left (by rw [p.len]; exact hlt), List.getElem?_append_left (by rw [p.len]; exact hlt)]
    · rw [List.getElem?_append_right (by rw [p.len]; exact hge), List.getElem?_append_right (by rw [p.len]; exact hge), p.len]
      obtain ⟨k, rfl⟩ : ∃ k, j = 2 * i + (k + 2) := ⟨j - 2 * i - 2, by omega⟩
      rw [show 2 * i + (k + 2) - 2 * i = k + 2 by omega]
      rfl
  refine ⟨fun q hq => ?_, fun q hq hl => ?_, fun u u0 u1 hxu h0 _ he => ?_, fun u u0 u1 hxu hne => ?_⟩
  · rw [← es] at hq ⊢; rw [en]
    exact v'.var_at g0 (mem_take_at hq (by omega))
  · rw [← es] at hq hl ⊢; rw [en]
    rw [v'.var_at g1 (mem_drop_at hq hl)]; omega
  · -- the other side
    have hu : u ∈ o := by
      by_cases hsd : ∃ l ∈ h.ps, u ∈ l
      · obtain ⟨l, hm, hu⟩ := hsd
        obtain ⟨j, hj⟩ := List.getElem?_of_mem hm
        rw [v.var_at hj hu] at he hxu
        rw [eo]
        by_cases ho : x % 2 = 1
        · have : j = 2 * i + 1 := by omega
          subst this
          rw [hlr.2] at hj; injection hj with hj
          rw [if_pos ho, hj]; exact hu
        · have : j = 2 * i := by omega
          subst this
          rw [hlr.1] at hj; injection hj with hj
          rw [if_neg ho, hj]; exact hu
      · have hno : ∀ l ∈ h.ps, u ∉ l := fun l hl hu => hsd ⟨l, hl, hu⟩
        rw [varF_no hno] at h0
        split at h0 <;> omega
    have h64 := v.u2
    exact v'.var_rest (by rw [erest]; exact mem_merged.2 ⟨⟨u0, by omega⟩, .inr hu⟩)
  · by_cases hsd : ∃ l ∈ h.ps, u ∈ l
    · obtain ⟨l, hm, hu⟩ := hsd
      obtain ⟨j, hj⟩ := List.getElem?_of_mem hm
      rw [v.var_at hj hu] at hne ⊢
      rw [v'.var_at (j := j) (l := l) (by rw [gj j (by omega) (by omega)]; exact hj) hu]
    · have hno : ∀ l ∈ h.ps, u ∉ l := fun l hl hu => hsd ⟨l, hl, hu⟩
      have h64 := v.u2
      rcases v.cover u u0 u1 with hr | hr | ⟨l, hl, hr⟩
      · rw [v.var_rest hr, v'.var_rest (by rw [erest]; exact mem_merged.2 ⟨⟨u0, by omega⟩, .inl hr⟩)]
      · rw [v.var_named hr, v'.var_named (by rw [enm]; exact hr)]
      · exact absurd hr (hno l hl)
end Go.Proofs.Ytoegpalacppllaa.Hn
