/- Plain laws of hunts: a hunt after a variant is heard is valid. No program is in sight here. -/
import Derived.Test.YtoegpalacppllaaHp2
namespace Go.Proofs.Ytoegpalacppllaa.Hn

theorem sumL_append : ∀ (a b : List LI), sumL (a ++ b) = sumL a + sumL b
  | [], b => by simp [sumL]
  | l :: a, b => by simp [sumL, sumL_append a b]; omega
theorem merged_perm {a b : LI} (hn : (a ++ b).Nodup) (hr : ∀ x ∈ a ++ b, 0 ≤ x ∧ x < 64) : (merged a b).Perm (a ++ b) := by
  refine (List.perm_ext_iff_of_nodup ?_ hn).2 fun x => ?_
  · exact List.nodup_iff_pairwise_ne.2 ((merged_up a b).imp fun h => by omega)
  · rw [mem_merged, List.mem_append]
    exact ⟨fun h => h.2, fun h => ⟨hr x (List.mem_append.2 h), h⟩⟩
theorem up_users {l : LI} {n : Int} (h : Up l) (hr : ∀ x ∈ l, 0 ≤ x ∧ x < n) : usersB l n = true := usersB_iff.2 fun i hi => by
  refine ⟨(hr _ (at_mem hi)).1, (hr _ (at_mem hi)).2, ?_⟩
  by_cases h0 : i = 0
  · exact .inl h0
  · refine .inr ?_
    have h1 : i - 1 < l.length := by omega
    have := List.pairwise_iff_getElem.1 h (i - 1) i h1 hi (by omega)
    simpa [at_, hi, h1] using this
theorem valid_of {h' h : Hu} (v : Valid h) (hu : h'.users = h.users) (hr : 0 ≤ h'.rounds ∧ h'.rounds ≤ 100000) (hp : h'.ps.length ≤ 128) (h1 : Up h'.rest) (h2 : Up h'.named) (h3 : ∀ l ∈ h'.ps, Up l ∧ l ≠ [])
    (hF : (h'.rest ++ h'.named ++ h'.ps.flatten).Perm (h.rest ++ h.named ++ h.ps.flatten)) : Valid h' := by
  have hmem : ∀ x, x ∈ h'.rest ++ h'.named ++ h'.ps.flatten → 0 ≤ x ∧ x < h'.users := fun x hx => by
    rw [hu]
    rcases List.mem_append.1 (hF.mem_iff.1 hx) with hx | hx
    · rcases List.mem_append.1 hx with hx | hx
      · exact users_mem v.rest hx
      · exact users_mem v.named hx
    · obtain ⟨l, hl, hx⟩ := List.mem_flatten.1 hx
      exact users_mem (v.ps l hl).1 hx
  refine ⟨by rw [hu]; exact v.u1, by rw [hu]; exact v.u2, hr.1, hr.2, hp, up_users h1 fun x hx => hmem x (by simp [hx]), up_users h2 fun x hx => hmem x (by simp [hx]), fun l hl => ⟨up_users (h3 l hl).1 fun x hx => hmem x ?_, (h3 l hl).2⟩, hF.nodup_iff.2 v.nodup, fun x h0 hx => ?_, ?_⟩
  · exact List.mem_append_right _ (List.mem_flatten.2 ⟨l, hl, hx⟩)
  · have hc := v.cover x h0 (by rw [← hu]; exact hx)
    have : x ∈ h.rest ++ h.named ++ h.ps.flatten := by
      rcases hc with hc | hc | ⟨l, hl, hc⟩
      · simp [hc]
      · simp [hc]
      · exact List.mem_append_right _ (List.mem_flatten.2 ⟨l, hl, hc⟩)
    have := hF.mem_iff.2 this
    rcases List.mem_append.1 this with hx | hx
    · rcases List.mem_append.1 hx with hx | hx
      · exact .inl hx
      · exact .inr (.inl hx)
    · obtain ⟨l, hl, hx⟩ := List.mem_flatten.1 hx
      exact .inr (.inr ⟨l, hl, hx⟩)
  · have e : ∀ k : Hu, sumL (groups k) = (k.rest ++ k.named ++ k.ps.flatten).length := fun k => by
      simp only [groups, sumL, List.length_append, flat_len]; omega
    rw [e h', hF.length_eq, ← e h, hu]; exact v.sum

theorem Up.take {l : LI} (h : Up l) (n : Nat) : Up (l.take n) := h.sublist (List.take_sublist n l)
theorem Up.drop {l : LI} (h : Up l) (n : Nat) : Up (l.drop n) := h.sublist (List.drop_sublist n l)
theorem half_lt {l : LI} (h : 2 ≤ l.length) : 0 < halfN l ∧ halfN l < l.length := by unfold halfN; omega
theorem take_ne {l : LI} {n : Nat} (h : 0 < n) (hl : 0 < l.length) : l.take n ≠ [] := by
  intro e
  have := congrArg List.length e
  simp only [List.length_take, List.length_nil] at this; omega
theorem drop_ne {l : LI} {n : Nat} (h : n < l.length) : l.drop n ≠ [] := by
  intro e
  have := congrArg List.length e
  simp at this; omega

/-- the pair of a side: what comes ahead of it, it, what comes behind it -/
structure Part (ps : List LI) (i : Nat) where
  A : List LI
  l : LI
  r : LI
  B : List LI
  eq : ps = A ++ l :: r :: B
  len : A.length = 2 * i
def part_of {ps : List LI} {i : Nat} (h : 2 * i + 1 < ps.length) : Part ps i :=
  { A := ps.take (2 * i), l := ps[2 * i], r := ps[2 * i + 1], B := ps.drop (2 * i + 2)
    eq := by
      rw [← List.drop_eq_getElem_cons h, ← List.drop_eq_getElem_cons (by omega : 2 * i < ps.length), List.take_append_drop]
    len := by simp; omega }
theorem Part.g0 {ps : List LI} {i : Nat} (p : Part ps i) : ps[2 * i]? = some p.l := (congrArg (fun q : List LI => q[2 * i]?) p.eq).trans (by
  rw [List.getElem?_append_right (by rw [p.len]; omega), p.len]; simp)
theorem Part.g1 {ps : List LI} {i : Nat} (p : Part ps i) : ps[2 * i + 1]? = some p.r := (congrArg (fun q : List LI => q[2 * i + 1]?) p.eq).trans (by
  rw [List.getElem?_append_right (by rw [p.len]; omega), p.len, show 2 * i + 1 - 2 * i = 1 by omega]; simp)
theorem Part.take {ps : List LI} {i : Nat} (p : Part ps i) : ps.take (2 * i) = p.A := (congrArg (fun q : List LI => q.take (2 * i)) p.eq).trans (by
  rw [← p.len, List.take_left])
theorem Part.drop {ps : List LI} {i : Nat} (p : Part ps i) : ps.drop (2 * i + 2) = p.B := (congrArg (fun q : List LI => q.drop (2 * i + 2)) p.eq).trans (by
  rw [← p.len, ← List.drop_drop, List.drop_left]; rfl)
theorem Part.set {ps : List LI} {i : Nat} (p : Part ps i) (a b : LI) : (ps.set (2 * i) a).set (2 * i + 1) b = p.A ++ a :: b :: p.B := (congrArg (fun q : List LI => (q.set (2 * i) a).set (2 * i + 1) b) p.eq).trans (by
  rw [List.set_append_right _ _ (by rw [p.len]; omega), p.len, Nat.sub_self, List.set_append_right _ _ (by rw [p.len]; omega), p.len, show 2 * i + 1 - 2 * i = 1 by omega]
  rfl)
theorem Part.length {ps : List LI} {i : Nat} (p : Part ps i) : ps.length = 2 * i + p.B.length + 2 := (congrArg List.length p.eq).trans (by
  have := p.len
  simp; omega)
theorem Part.mem {ps : List LI} {i : Nat} (p : Part ps i) {m : LI} (h : m = p.l ∨ m = p.r ∨ m ∈ p.A ∨ m ∈ p.B) : m ∈ ps := by
  have e : m ∈ p.A ++ p.l :: p.r :: p.B := by
    simp only [List.mem_append, List.mem_cons]
    rcases h with h | h | h | h
    · exact .inr (.inl h)
    · exact .inr (.inr (.inl h))
    · exact .inl h
    · exact .inr (.inr (.inr h))
  exact p.eq.symm ▸ e
theorem Part.flat {ps : List LI} {i : Nat} (p : Part ps i) : ps.flatten = (p.A ++ p.l :: p.r :: p.B).flatten := congrArg List.flatten p.eq
theorem heard_zero (h : Hu) : heard h 0 = { users := h.users, rounds := h.rounds + 1, rest := [], named := if h.rest.length = 1 then merged h.named h.rest else h.named, ps := if h.rest.length = 1 then h.ps else h.ps ++ [h.rest.take (halfN h.rest), h.rest.drop (halfN h.rest)] } := rfl
/-- a variant of a pair, written out -/
theorem heard_pair {h : Hu} {x i : Nat} (hx : x ≠ 0) (hi : (x - 1) / 2 = i) (p : Part h.ps i) : heard h x =
    { users := h.users, rounds := h.rounds + 1, rest := merged h.rest (if x % 2 = 1 then p.r else p.l)
      named := if (if x % 2 = 1 then p.l else p.r).length = 1 then merged h.named (if x % 2 = 1 then p.l else p.r) else h.named
      ps := if (if x % 2 = 1 then p.l else p.r).length = 1 then p.A ++ p.B else p.A ++ (if x % 2 = 1 then p.l else p.r).take (halfN (if x % 2 = 1 then p.l else p.r)) :: (if x % 2 = 1 then p.l else p.r).drop (halfN (if x % 2 = 1 then p.l else p.r)) :: p.B } := by
  have g0 : ∀ d, h.ps.getD (2 * i) d = p.l := fun d => by rw [List.getD_eq_getElem?_getD, p.g0]; rfl
  have g1 : ∀ d, h.ps.getD (2 * i + 1) d = p.r := fun d => by rw [List.getD_eq_getElem?_getD, p.g1]; rfl
  have ht := p.take
  have hd := p.drop
  have hs := p.set
  unfold heard
  rw [if_neg hx]
  simp only [hi]
  by_cases ho : x % 2 = 1
  · have e1 : x - 1 = 2 * i := by omega
    simp only [ho, if_true, e1, g0, g1, ht, hd, hs]
  · have e0 : x % 2 = 0 := by omega
    have e1 : x - 1 = 2 * i + 1 := by omega
    simp only [e0, e1, g0, g1, ht, hd, hs, Nat.add_zero]
    simp

theorem Valid.range {h : Hu} (v : Valid h) {x : Int} (hx : x ∈ h.rest ++ h.named ++ h.ps.flatten) : 0 ≤ x ∧ x < 64 := by
  have := v.u2
  rcases List.mem_append.1 hx with hx | hx
  · rcases List.mem_append.1 hx with hx | hx
    · have := users_mem v.rest hx; omega
    · have := users_mem v.named hx; omega
  · obtain ⟨l, hl, hx⟩ := List.mem_flatten.1 hx
    have := users_mem (v.ps l hl).1 hx; omega
/-- there is room for one pair more, if the rest has two users -/
theorem Valid.room {h : Hu} (v : Valid h) (hr : 2 ≤ h.rest.length) (he : h.ps.length % 2 = 0) : h.ps.length + 2 ≤ 128 := by
  have : ∀ ps : List LI, (∀ l ∈ ps, l ≠ []) → ps.length ≤ sumL ps := by
    intro ps
    induction ps with
    | nil => intro _; simp
    | cons l ps ih =>
      intro hl
      have h1 := ih fun x hx => hl x (by simp [hx])
      have h2 : 0 < l.length := List.length_pos_iff.2 (hl l (by simp))
      simp [sumL]; omega
  have h1 := this h.ps fun l hl => (v.ps l hl).2
  have h2 := v.sum
  have h3 := v.u2
  simp [groups, sumL] at h2
  omega

theorem Valid.heard0 {h : Hu} (v : Valid h) (he : h.ps.length % 2 = 0) (hr : h.rounds < 100000) (hn : h.rest ≠ []) : Valid (heard h 0) := by
  have hpos : 0 < h.rest.length := List.length_pos_iff.2 hn
  have hr0 := v.r1
  by_cases h1 : h.rest.length = 1
  · rw [heard_zero]
    simp only [h1, if_true]
    have hnd : (h.named ++ h.rest).Nodup := (List.perm_append_comm.nodup_iff).1 (List.nodup_append.1 v.nodup).1
    refine valid_of v rfl ⟨by simp only; omega, by simp only; omega⟩ v.p List.Pairwise.nil (merged_up _ _) (fun l hl => ⟨users_up (v.ps l hl).1, (v.ps l hl).2⟩) ?_
    simp only [List.nil_append]
    refine List.Perm.append_right _ ?_
    exact (merged_perm hnd fun x hx => v.range (by simp only [List.mem_append] at hx ⊢; exact .inl hx.symm)).trans List.perm_append_comm
  · rw [heard_zero]
    simp only [h1, if_false]
    have hb := half_lt (l := h.rest) (by omega)
    have hroom := v.room (by omega) he
    refine valid_of v rfl ⟨by simp only; omega, by simp only; omega⟩ (by simp; omega) List.Pairwise.nil (users_up v.named) (fun l hl => ?_) ?_
    · rcases List.mem_append.1 hl with hl | hl
      · exact ⟨users_up (v.ps l hl).1, (v.ps l hl).2⟩
      · simp only [List.mem_cons, List.not_mem_nil, or_false] at hl
        rcases hl with rfl | rfl
        · exact ⟨(users_up v.rest).take _, take_ne hb.1 hpos⟩
        · exact ⟨(users_up v.rest).drop _, drop_ne hb.2⟩
    · simp only [List.nil_append, List.flatten_append, List.flatten_cons, List.flatten_nil, List.append_nil, List.take_append_drop]
      rw [List.append_assoc h.rest]
      rw [← List.append_assoc h.named]
      exact List.perm_append_comm
theorem Valid.heardP {h : Hu} (v : Valid h) (hr : h.rounds < 100000) {x i : Nat} (hx : x ≠ 0) (hi : (x - 1) / 2 = i) (p : Part h.ps i) : Valid (heard h x) := by
  have hr0 := v.r1
  obtain ⟨s, hs⟩ : ∃ s, s = if x % 2 = 1 then p.l else p.r := ⟨_, rfl⟩
  obtain ⟨o, ho⟩ : ∃ o, o = if x % 2 = 1 then p.r else p.l := ⟨_, rfl⟩
  rw [heard_pair hx hi p, ← hs, ← ho]
  have hps : ∀ m ∈ h.ps, Up m ∧ m ≠ [] := fun m hm => ⟨users_up (v.ps m hm).1, (v.ps m hm).2⟩
  have hmem : ∀ m, m = p.l ∨ m = p.r ∨ m ∈ p.A ∨ m ∈ p.B → m ∈ h.ps := fun m hm => p.mem hm
  have hsm : s ∈ h.ps := hmem s (by rw [hs]; split <;> simp)
  have hom : o ∈ h.ps := hmem o (by rw [ho]; split <;> simp)
  have hlr : (p.l ++ p.r).Perm (s ++ o) := by
    rw [hs, ho]; split
    · exact List.Perm.refl _
    · exact List.perm_append_comm
  have hflat : h.ps.flatten.Perm (p.A.flatten ++ p.B.flatten ++ (s ++ o)) := by
    rw [p.flat]
    simp only [List.flatten_append, List.flatten_cons, List.append_assoc]
    refine List.Perm.append_left _ ?_
    rw [← List.append_assoc p.l]
    exact (List.perm_append_comm).trans (hlr.append_left _)
  have hall : (h.rest ++ h.named ++ h.ps.flatten).Perm ((h.rest ++ o) ++ (h.named ++ s) ++ (p.A.flatten ++ p.B.flatten)) := by
    refine (hflat.append_left _).trans ?_
    simp only [List.append_assoc]
    refine List.Perm.append_left _ ?_
    have e1 : (h.named ++ (p.A.flatten ++ (p.B.flatten ++ (s ++ o)))).Perm (h.named ++ ((s ++ o) ++ (p.A.flatten ++ p.B.flatten))) :=
      List.Perm.append_left _ (by rw [← List.append_assoc p.A.flatten]; exact List.perm_append_comm)
    refine e1.trans ?_
    have e2 : (h.named ++ ((s ++ o) ++ (p.A.flatten ++ p.B.flatten))).Perm ((o ++ (h.named ++ s)) ++ (p.A.flatten ++ p.B.flatten)) := by
      rw [← List.append_assoc]
      refine List.Perm.append_right _ ?_
      rw [← List.append_assoc]
      exact List.perm_append_comm
    refine e2.trans ?_
    simp [List.append_assoc]
  have hnd := hall.nodup_iff.1 v.nodup
  have hrg : ∀ y, y ∈ (h.rest ++ o) ++ (h.named ++ s) ++ (p.A.flatten ++ p.B.flatten) → 0 ≤ y ∧ y < 64 := fun y hy => v.range (hall.mem_iff.2 hy)
  have hro : (merged h.rest o).Perm (h.rest ++ o) := merged_perm (List.nodup_append.1 (List.nodup_append.1 hnd).1).1 fun y hy => hrg y (by simp only [List.mem_append] at hy ⊢; exact .inl (.inl hy))
  have hns : (merged h.named s).Perm (h.named ++ s) := merged_perm (List.nodup_append.1 (List.nodup_append.1 hnd).1).2.1 fun y hy => hrg y (by simp only [List.mem_append] at hy ⊢; exact .inl (.inr hy))
  have hl0 : 0 < s.length := List.length_pos_iff.2 (hps s hsm).2
  have hplen : h.ps.length = p.A.length + p.B.length + 2 := by rw [p.length, p.len]
  have hp128 := v.p
  by_cases h1 : s.length = 1
  · simp only [h1, if_true]
    refine valid_of v rfl ⟨by simp only; omega, by simp only; omega⟩ (by simp; omega) (merged_up _ _) (merged_up _ _) (fun m hm => ?_) ?_
    · refine hps m (hmem m ?_)
      rcases List.mem_append.1 hm with hm | hm
      · exact .inr (.inr (.inl hm))
      · exact .inr (.inr (.inr hm))
    · simp only [List.flatten_append]
      exact ((hro.append hns).append_right _).trans hall.symm
  · simp only [h1, if_false]
    have hb := half_lt (l := s) (by omega)
    refine valid_of v rfl ⟨by simp only; omega, by simp only; omega⟩ (by simp; omega) (merged_up _ _) (users_up v.named) (fun m hm => ?_) ?_
    · simp only [List.mem_append, List.mem_cons] at hm
      rcases hm with hm | rfl | rfl | hm
      · exact hps m (hmem m (.inr (.inr (.inl hm))))
      · exact ⟨(hps s hsm).1.take _, take_ne hb.1 hl0⟩
      · exact ⟨(hps s hsm).1.drop _, drop_ne hb.2⟩
      · exact hps m (hmem m (.inr (.inr (.inr hm))))
    · refine List.Perm.trans ?_ hall.symm
      have e : (p.A ++ s.take (halfN s) :: s.drop (halfN s) :: p.B).flatten = p.A.flatten ++ (s ++ p.B.flatten) := by
        simp only [List.flatten_append, List.flatten_cons]
        rw [← List.append_assoc (s.take _), List.take_append_drop]
      rw [e]
      refine ((hro.append_right _).append_right _).trans ?_
      simp only [List.append_assoc]
      refine List.Perm.append_left _ (List.Perm.append_left _ (List.Perm.append_left _ ?_))
      rw [← List.append_assoc, ← List.append_assoc]
      exact List.perm_append_comm.append_right _
end Go.Proofs.Ytoegpalacppllaa.Hn
