/- For every hunt that is not great and every variant that is heard: of a side or a rest of two users or more the users get two different variants of one pair afterwards, as many, or one more on the left; the users of the other side get the variant 0; all others keep theirs; no conditions. -/
import Derived.Test.YtoegpalacppllaaGreatPkB5
import Derived.Test.YtoegpalacppllaaGreatProg
import Derived.ChangeSlices
import Derived.ChangeMaps5
import Derived.Test.YtoegpalacppllaaGreatRows
/- More results, more slices. No function of the program is in sight here. -/
namespace Go.Proofs.YtoegpalacppllaaGreat
open Go.RowKit Pl

section
variable {P : Program} {bs : List Value} {us : List (Nat × Value)} {w0 : Base} {W : World} {L : List Blk} {v : Value} {fn : Func} {R' : Ending → World → Prop}
theorem run_equalBool (d : Nat) {t : TypeId} (ht : P.underlying t = some .bool) (a b : Bool) (w : World) : (Op.equalIn (d + 1) t (.bool a) (.bool b)).run P w = .ok (a == b) w := by
  simp [Op.equalIn, run_underlying ht]
section
variable {ops : Array Oper} {Q : Exit → Act → World → Prop} {ds : List Deferred} {rest : List Oper} {o : Oper} {d : Nat} {r : Option (Option Nat)} {m : Nat}
/-! operations under a guard that lets them run -/
end
end
end Go.Proofs.YtoegpalacppllaaGreat

/- Plain laws of hunts: variants, and what is heard. No program is in sight here. -/
namespace Go.Proofs.YtoegpalacppllaaGreat.Hn

/-! ### variants -/
section
variable {h : Hu} (v : Valid h)
include v
end

/-! ### what is heard -/
theorem users_up {l : LI} {n : Int} (h : usersB l n = true) : Up l := by
  rw [Up, List.pairwise_iff_getElem]
  intro i j hi hj hij
  have := users_lt h i j hij hj
  simpa [at_, hi, hj] using this
end Go.Proofs.YtoegpalacppllaaGreat.Hn

/- Plain laws of hunts: a hunt after a variant is heard is valid. No program is in sight here. -/
namespace Go.Proofs.YtoegpalacppllaaGreat.Hn

theorem merged_perm {a b : LI} (hn : (a ++ b).Nodup) (hr : ∀ x ∈ a ++ b, 0 ≤ x ∧ x < 64) : (merged a b).Perm (a ++ b) := by
  refine (List.perm_ext_iff_of_nodup ?_ hn).2 fun x => ?_
  · exact List.nodup_iff_pairwise_ne.2 ((merged_up a b).imp fun h => by omega)
  · rw [mem_merged, List.mem_append]
    exact ⟨fun h => h.2, fun h => ⟨hr x (List.mem_append.2 h), h⟩⟩
theorem up_users {l : LI} {n : Int} (h : Up l) (hr : ∀ x ∈ l, 0 ≤ x ∧ x < n) : usersB l n = true := usersB_iff.2 fun i hi => by
  refine ⟨(hr _ (at_mem hi)).1, (hr _ (at_mem hi)).2, ?_⟩
  by_cases h0 : i = 0
  · exact .inl h0
  · refine .inr ?_
    have h1 : i - 1 < l.length := by omega
    have := List.pairwise_iff_getElem.1 h (i - 1) i h1 hi (by omega)
    simpa [at_, hi, h1] using this
theorem valid_of {h' h : Hu} (v : Valid h) (hu : h'.users = h.users) (hr : 0 ≤ h'.rounds ∧ h'.rounds ≤ 100000) (hp : h'.ps.length ≤ 128) (h1 : Up h'.rest) (h2 : Up h'.named) (h3 : ∀ l ∈ h'.ps, Up l ∧ l ≠ [])
    (hF : (h'.rest ++ h'.named ++ h'.ps.flatten).Perm (h.rest ++ h.named ++ h.ps.flatten)) : Valid h' := by
  have hmem : ∀ x, x ∈ h'.rest ++ h'.named ++ h'.ps.flatten → 0 ≤ x ∧ x < h'.users := fun x hx => by
    rw [hu]
    rcases List.mem_append.1 (hF.mem_iff.1 hx) with hx | hx
    · rcases List.mem_append.1 hx with hx | hx
      · exact users_mem v.rest hx
      · exact users_mem v.named hx
    · obtain ⟨l, hl, hx⟩ := List.mem_flatten.1 hx
      exact users_mem (v.ps l hl).1 hx
  refine ⟨by rw [hu]; exact v.u1, by rw [hu]; exact v.u2, hr.1, hr.2, hp, up_users h1 fun x hx => hmem x (by simp [hx]), up_users h2 fun x hx => hmem x (by simp [hx]), fun l hl => ⟨up_users (h3 l hl).1 fun x hx => hmem x ?_, (h3 l hl).2⟩, hF.nodup_iff.2 v.nodup, fun x h0 hx => ?_, ?_⟩
  · exact List.mem_append_right _ (List.mem_flatten.2 ⟨l, hl, hx⟩)
  · have hc := v.cover x h0 (by rw [← hu]; exact hx)
    have : x ∈ h.rest ++ h.named ++ h.ps.flatten := by
      rcases hc with hc | hc | ⟨l, hl, hc⟩
      · simp [hc]
      · simp [hc]
      · exact List.mem_append_right _ (List.mem_flatten.2 ⟨l, hl, hc⟩)
    have := hF.mem_iff.2 this
    rcases List.mem_append.1 this with hx | hx
    · rcases List.mem_append.1 hx with hx | hx
      · exact .inl hx
      · exact .inr (.inl hx)
    · obtain ⟨l, hl, hx⟩ := List.mem_flatten.1 hx
      exact .inr (.inr ⟨l, hl, hx⟩)
  · have e : ∀ k : Hu, sumL (groups k) = (k.rest ++ k.named ++ k.ps.flatten).length := fun k => by
      simp only [groups, sumL, List.length_append, flat_len]; omega
    rw [e h', hF.length_eq, ← e h, hu]; exact v.sum

theorem half_lt {l : LI} (h : 2 ≤ l.length) : 0 < halfN l ∧ halfN l < l.length := by unfold halfN; omega
theorem take_ne {l : LI} {n : Nat} (h : 0 < n) (hl : 0 < l.length) : l.take n ≠ [] := by
  intro e
  have := congrArg List.length e
  simp only [List.length_take, List.length_nil] at this; omega
theorem drop_ne {l : LI} {n : Nat} (h : n < l.length) : l.drop n ≠ [] := by
  intro e
  have := congrArg List.length e
  simp at this; omega

theorem Part.flat {ps : List LI} {i : Nat} (p : Part ps i) : ps.flatten = (p.A ++ p.l :: p.r :: p.B).flatten := congrArg List.flatten p.eq
/-- there is room for one pair more, if the rest has two users -/
theorem Valid.room {h : Hu} (v : Valid h) (hr : 2 ≤ h.rest.length) (he : h.ps.length % 2 = 0) : h.ps.length + 2 ≤ 128 := by
  have : ∀ ps : List LI, (∀ l ∈ ps, l ≠ []) → ps.length ≤ sumL ps := by
    intro ps
    induction ps with
    | nil => intro _; simp
    | cons l ps ih =>
      intro hl
      have h1 := ih fun x hx => hl x (by simp [hx])
      have h2 : 0 < l.length := List.length_pos_iff.2 (hl l (by simp))
      simp [sumL]; omega
  have h1 := this h.ps fun l hl => (v.ps l hl).2
  have h2 := v.sum
  have h3 := v.u2
  simp [groups, sumL] at h2
  omega

theorem Valid.heard0 {h : Hu} (v : Valid h) (he : h.ps.length % 2 = 0) (hr : h.rounds < 100000) (hn : h.rest ≠ []) : Valid (heard h 0) := by
  have hpos : 0 < h.rest.length := List.length_pos_iff.2 hn
  have hr0 := v.r1
  by_cases h1 : h.rest.length = 1
  · rw [heard_zero]
    simp only [h1, if_true]
    have hnd : (h.named ++ h.rest).Nodup := (List.perm_append_comm.nodup_iff).1 (List.nodup_append.1 v.nodup).1
    refine valid_of v rfl ⟨by simp only; omega, by simp only; omega⟩ v.p List.Pairwise.nil (merged_up _ _) (fun l hl => ⟨users_up (v.ps l hl).1, (v.ps l hl).2⟩) ?_
    simp only [List.nil_append]
    refine List.Perm.append_right _ ?_
    exact (merged_perm hnd fun x hx => v.range (by simp only [List.mem_append] at hx ⊢; exact .inl hx.symm)).trans List.perm_append_comm
  · rw [heard_zero]
    simp only [h1, if_false]
    have hb := half_lt (l := h.rest) (by omega)
    have hroom := v.room (by omega) he
    refine valid_of v rfl ⟨by simp only; omega, by simp only; omega⟩ (by simp; omega) List.Pairwise.nil (users_up v.named) (fun l hl => ?_) ?_
    · rcases List.mem_append.1 hl with hl | hl
      · exact ⟨users_up (v.ps l hl).1, (v.ps l hl).2⟩
      · simp only [List.mem_cons, List.not_mem_nil, or_false] at hl
        rcases hl with rfl | rfl
        · exact ⟨(users_up v.rest).take _, take_ne hb.1 hpos⟩
        · exact ⟨(users_up v.rest).drop _, drop_ne hb.2⟩
    · simp only [List.nil_append, List.flatten_append, List.flatten_cons, List.flatten_nil, List.append_nil, List.take_append_drop]
      rw [List.append_assoc h.rest]
      rw [← List.append_assoc h.named]
      exact List.perm_append_comm
theorem Valid.heardP {h : Hu} (v : Valid h) (hr : h.rounds < 100000) {x i : Nat} (hx : x ≠ 0) (hi : (x - 1) / 2 = i) (p : Part h.ps i) : Valid (heard h x) := by
  have hr0 := v.r1
  obtain ⟨s, hs⟩ : ∃ s, s = if x % 2 = 1 then p.l else p.r := ⟨_, rfl⟩
  obtain ⟨o, ho⟩ : ∃ o, o = if x % 2 = 1 then p.r else p.l := ⟨_, rfl⟩
  rw [heard_pair hx hi p, ← hs, ← ho]
  have hps : ∀ m ∈ h.ps, Up m ∧ m ≠ [] := fun m hm => ⟨users_up (v.ps m hm).1, (v.ps m hm).2⟩
  have hmem : ∀ m, m = p.l ∨ m = p.r ∨ m ∈ p.A ∨ m ∈ p.B → m ∈ h.ps := fun m hm => p.mem hm
  have hsm : s ∈ h.ps := hmem s (by rw [hs]; split <;> simp)
  have hom : o ∈ h.ps := hmem o (by rw [ho]; split <;> simp)
  have hlr : (p.l ++ p.r).Perm (s ++ o) := by
    rw [hs, ho]; split
    · exact List.Perm.refl _
    · exact List.perm_append_comm
  have hflat : h.ps.flatten.Perm (p.A.flatten ++ p.B.flatten ++ (s ++ o)) := by
    rw [p.flat]
    simp only [List.flatten_append, List.flatten_cons, List.append_assoc]
    refine List.Perm.append_left _ ?_
    rw [← List.append_assoc p.l]
    exact (List.perm_append_comm).trans (hlr.append_left _)
  have hall : (h.rest ++ h.named ++ h.ps.flatten).Perm ((h.rest ++ o) ++ (h.named ++ s) ++ (p.A.flatten ++ p.B.flatten)) := by
    refine (hflat.append_left _).trans ?_
    simp only [List.append_assoc]
    refine List.Perm.append_left _ ?_
    have e1 : (h.named ++ (p.A.flatten ++ (p.B.flatten ++ (s ++ o)))).Perm (h.named ++ ((s ++ o) ++ (p.A.flatten ++ p.B.flatten))) :=
      List.Perm.append_left _ (by rw [← List.append_assoc p.A.flatten]; exact List.perm_append_comm)
    refine e1.trans ?_
    have e2 : (h.named ++ ((s ++ o) ++ (p.A.flatten ++ p.B.flatten))).Perm ((o ++ (h.named ++ s)) ++ (p.A.flatten ++ p.B.flatten)) := by
      rw [← List.append_assoc]
      refine List.Perm.append_right _ ?_
      rw [← List.append_assoc]
      exact List.perm_append_comm
    refine e2.trans ?_
    simp [List.append_assoc]
  have hnd := hall.nodup_iff.1 v.nodup
  have hrg : ∀ y, y ∈ (h.rest ++ o) ++ (h.named ++ s) ++ (p.A.flatten ++ p.B.flatten) → 0 ≤ y ∧ y < 64 := fun y hy => v.range (hall.mem_iff.2 hy)
  have hro : (merged h.rest o).Perm (h.rest ++ o) := merged_perm (List.nodup_append.1 (List.nodup_append.1 hnd).1).1 fun y hy => hrg y (by simp only [List.mem_append] at hy ⊢; exact .inl (.inl hy))
  have hns : (merged h.named s).Perm (h.named ++ s) := merged_perm (List.nodup_append.1 (List.nodup_append.1 hnd).1).2.1 fun y hy => hrg y (by simp only [List.mem_append] at hy ⊢; exact .inl (.inr hy))
  have hl0 : 0 < s.length := List.length_pos_iff.2 (hps s hsm).2
  have hplen : h.ps.length = p.A.length + p.B.length + 2 := by rw [p.length, p.len]
  have hp128 := v.p
  by_cases h1 : s.length = 1
  · simp only [h1, if_true]
    refine valid_of v rfl ⟨by simp only; omega, by simp only; omega⟩ (by simp; omega) (merged_up _ _) (merged_up _ _) (fun m hm => ?_) ?_
    · refine hps m (hmem m ?_)
      rcases List.mem_append.1 hm with hm | hm
      · exact .inr (.inr (.inl hm))
      · exact .inr (.inr (.inr hm))
    · simp only [List.flatten_append]
      exact ((hro.append hns).append_right _).trans hall.symm
  · simp only [h1, if_false]
    have hb := half_lt (l := s) (by omega)
    refine valid_of v rfl ⟨by simp only; omega, by simp only; omega⟩ (by simp; omega) (merged_up _ _) (users_up v.named) (fun m hm => ?_) ?_
    · simp only [List.mem_append, List.mem_cons] at hm
      rcases hm with hm | rfl | rfl | hm
      · exact hps m (hmem m (.inr (.inr (.inl hm))))
      · exact ⟨(hps s hsm).1.take _, take_ne hb.1 hl0⟩
      · exact ⟨(hps s hsm).1.drop _, drop_ne hb.2⟩
      · exact hps m (hmem m (.inr (.inr (.inr hm))))
    · refine List.Perm.trans ?_ hall.symm
      have e : (p.A ++ s.take (halfN s) :: s.drop (halfN s) :: p.B).flatten = p.A.flatten ++ (s ++ p.B.flatten) := by
        simp only [List.flatten_append, List.flatten_cons]
        rw [← List.append_assoc (s.take _), List.take_append_drop]
      rw [e]
      refine ((hro.append_right _).append_right _).trans ?_
      simp only [List.append_assoc]
      refine List.Perm.append_left _ (List.Perm.append_left _ (List.Perm.append_left _ ?_))
      rw [← List.append_assoc, ← List.append_assoc]
      exact List.perm_append_comm.append_right _
end Go.Proofs.YtoegpalacppllaaGreat.Hn

/- Plain laws of hunts: who is named, and who gets which variant, after a variant is heard. No program is in sight here. -/
namespace Go.Proofs.YtoegpalacppllaaGreat.Hn

/-- the users who get a variant -/
def sideOf (h : Hu) (x : Nat) : LI := if x = 0 then h.rest else h.ps.getD (x - 1) []
theorem named_heard (h : Hu) (x : Nat) : (heard h x).named = if (sideOf h x).length = 1 then merged h.named (sideOf h x) else h.named := by
  unfold heard sideOf
  by_cases hx : x = 0
  · simp [hx]
  · simp [hx]
theorem users_heard (h : Hu) (x : Nat) : (heard h x).users = h.users := by
  unfold heard; split <;> rfl
theorem rounds_heard (h : Hu) (x : Nat) : (heard h x).rounds = h.rounds + 1 := by
  unfold heard; split <;> rfl

theorem side_mem {h : Hu} {x : Nat} (hx : x ≠ 0) (hl : x ≤ h.ps.length) : h.ps[x - 1]? = some (sideOf h x) := by
  have h1 : x - 1 < h.ps.length := by omega
  simp [sideOf, hx, h1]
section
variable {h : Hu} (v : Valid h)
include v
theorem Valid.var_side {x : Nat} (hl : x ≤ h.ps.length) {u : Int} (hu : u ∈ sideOf h x) : variantB h u = x := by
  by_cases hx : x = 0
  · subst hx
    have hu' : u ∈ h.rest := by simpa [sideOf] using hu
    rw [varF_no fun l hl hul => v.rest_side hl hul hu']
    have := v.rest_named hu'
    simp [this]
  · rw [v.varF_at (side_mem hx hl) hu]; omega
theorem Valid.side_range {x : Nat} (hl : x ≤ h.ps.length) {u : Int} (hu : u ∈ sideOf h x) : 0 ≤ u ∧ u < h.users := by
  by_cases hx : x = 0
  · subst hx
    exact users_mem v.rest (by simpa [sideOf] using hu)
  · exact v.user_side (List.mem_of_getElem? (side_mem hx hl)) hu
theorem Valid.side_of_var {x : Nat} (hl : x ≤ h.ps.length) {u : Int} (h0 : 0 ≤ u) (h1 : u < h.users) (he : variantB h u = x) : u ∈ sideOf h x := by
  by_cases hs : ∃ l ∈ h.ps, u ∈ l
  · obtain ⟨l, hm, hu⟩ := hs
    obtain ⟨i, hi⟩ := List.getElem?_of_mem hm
    rw [v.varF_at hi hu] at he
    have hx : x = i + 1 := by omega
    subst hx
    have := side_mem (x := i + 1) (by omega) hl
    simp only [Nat.add_sub_cancel] at this
    rw [hi] at this
    injection this with this
    rw [← this]; exact hu
  · have hno : ∀ l ∈ h.ps, u ∉ l := fun l hl hu => hs ⟨l, hl, hu⟩
    rw [varF_no hno] at he
    by_cases hn : u ∈ h.named
    · simp [hn] at he
    · simp [hn] at he
      obtain rfl : x = 0 := by omega
      rcases v.cover u h0 h1 with hr | hr | ⟨l, hl, hr⟩
      · simpa [sideOf] using hr
      · exact absurd hr hn
      · exact absurd hr (hno l hl)
theorem Valid.side_disj {x : Nat} (hl : x ≤ h.ps.length) : (h.named ++ sideOf h x).Nodup := by
  refine List.nodup_append.2 ⟨users_nodup v.named, ?_, fun a ha b hb e => ?_⟩
  · by_cases hx : x = 0
    · subst hx; simpa [sideOf] using users_nodup v.rest
    · exact users_nodup (v.ps _ (List.mem_of_getElem? (side_mem hx hl))).1
  · subst e
    by_cases hx : x = 0
    · subst hx; exact v.rest_named (by simpa [sideOf] using hb) ha
    · exact v.named_side (List.mem_of_getElem? (side_mem hx hl)) hb ha
/-- who is named -/
theorem Valid.whole {x : Nat} (hl : x ≤ h.ps.length) : (∀ u ∈ h.named, u ∈ (heard h x).named) ∧ ((heard h x).named.length = h.named.length ∨ (heard h x).named.length = h.named.length + 1) ∧
    ∀ u ∈ (heard h x).named, u ∉ h.named → 0 ≤ u ∧ u < h.users ∧ variantB h u = x := by
  rw [named_heard]
  have h64 := v.u2
  have hr : ∀ u ∈ h.named ++ sideOf h x, 0 ≤ u ∧ u < 64 := fun u hu => by
    rcases List.mem_append.1 hu with hu | hu
    · have := users_mem v.named hu; omega
    · have := v.side_range hl hu; omega
  by_cases h1 : (sideOf h x).length = 1
  · simp only [h1, if_true]
    refine ⟨fun u hu => mem_merged.2 ⟨hr u (by simp [hu]), .inl hu⟩, .inr ?_, fun u hu hn => ?_⟩
    · rw [(merged_perm (v.side_disj hl) hr).length_eq, List.length_append, h1]
    · rcases (mem_merged.1 hu).2 with hu | hu
      · exact absurd hu hn
      · exact ⟨(v.side_range hl hu).1, (v.side_range hl hu).2, v.var_side hl hu⟩
  · simp only [h1, if_false]
    exact ⟨fun u hu => hu, .inl trivial, fun u hu hn => absurd hu hn⟩
/-- the users who get a variant, in order -/
theorem Valid.side_filter {x : Nat} (hl : x ≤ h.ps.length) : (rangeI h.users.toNat).filter (fun u => decide (variantB h u = x)) = sideOf h x := by
  refine up_ext ?_ ?_ fun u => ?_
  · refine List.Pairwise.filter _ ?_
    rw [rangeI, List.pairwise_map]
    exact List.pairwise_lt_range.imp fun h => by omega
  · by_cases hx : x = 0
    · subst hx; simpa [sideOf] using users_up v.rest
    · exact users_up (v.ps _ (List.mem_of_getElem? (side_mem hx hl))).1
  · simp only [List.mem_filter, mem_rangeI, decide_eq_true_eq]
    constructor
    · rintro ⟨⟨h0, h1⟩, he⟩; exact v.side_of_var hl h0 (by omega) he
    · intro hu
      have := v.side_range hl hu
      exact ⟨⟨this.1, by omega⟩, v.var_side hl hu⟩
end

/-- where a user is, in a valid hunt, by his variant -/
theorem Valid.var_at {h : Hu} (v : Valid h) {j : Nat} {l : LI} {u : Int} (hj : h.ps[j]? = some l) (hu : u ∈ l) : variantB h u = (j : Int) + 1 := v.varF_at hj hu
theorem Valid.var_rest {h : Hu} (v : Valid h) {u : Int} (hu : u ∈ h.rest) : variantB h u = 0 := by
  have := v.var_side (x := 0) (Nat.zero_le _) (u := u) (by simpa [sideOf] using hu)
  simpa using this
theorem Valid.var_named {h : Hu} (v : Valid h) {u : Int} (hu : u ∈ h.named) : variantB h u = -1 := by
  rw [varF_no fun l hl hul => v.named_side hl hul hu]
  simp [hu]

/-- the first of the two variants that those get who got the variant that was heard -/
def newAt (h : Hu) (x : Nat) : Nat := if x = 0 then h.ps.length else 2 * ((x - 1) / 2)
/-- who gets which variant -/
structure Halves (h : Hu) (x : Nat) : Prop where
  left : ∀ i, i < halfN (sideOf h x) → variantB (heard h x) (at_ (sideOf h x) i) = (newAt h x : Int) + 1
  right : ∀ i, halfN (sideOf h x) ≤ i → i < (sideOf h x).length → variantB (heard h x) (at_ (sideOf h x) i) = (newAt h x : Int) + 2
  same : ∀ u, 0 ≤ u → u < h.users → variantB h u ≠ x → 0 < variantB h u → 0 < x → (variantB h u - 1) / 2 = ((x : Int) - 1) / 2 → variantB (heard h x) u = 0
  other : ∀ u, 0 ≤ u → u < h.users → variantB h u ≠ x → ¬ (0 < variantB h u ∧ 0 < x ∧ (variantB h u - 1) / 2 = ((x : Int) - 1) / 2) → variantB (heard h x) u = variantB h u
theorem mem_take_at {l : LI} {n i : Nat} (h : i < n) (hl : i < l.length) : at_ l i ∈ l.take n := at_take h hl
theorem mem_drop_at {l : LI} {n i : Nat} (h : n ≤ i) (hl : i < l.length) : at_ l i ∈ l.drop n := by
  refine List.mem_of_getElem? (i := i - n) ?_
  rw [List.getElem?_drop, show n + (i - n) = i by omega]
  exact at_get hl
theorem halves0 {h : Hu} (v : Valid h) (v' : Valid (heard h 0)) (h2 : 2 ≤ h.rest.length) : Halves h 0 := by
  have h1 : ¬ h.rest.length = 1 := by omega
  have es : sideOf h 0 = h.rest := rfl
  have en : newAt h 0 = h.ps.length := rfl
  have eps : (heard h 0).ps = h.ps ++ [h.rest.take (halfN h.rest), h.rest.drop (halfN h.rest)] := by rw [heard_zero]; simp [h1]
  have enm : (heard h 0).named = h.named := by rw [heard_zero]; simp [h1]
  have hb := half_lt h2
  refine ⟨fun i hi => ?_, fun i hi hl => ?_, fun u _ _ _ _ h0 => by omega, fun u u0 u1 hx _ => ?_⟩
  · rw [es] at hi ⊢; rw [en]
    exact v'.var_at (l := h.rest.take (halfN h.rest)) (by rw [eps, List.getElem?_append_right (Nat.le_refl _)]; simp) (mem_take_at hi (by omega))
  · rw [es] at hi hl ⊢; rw [en]
    have := v'.var_at (j := h.ps.length + 1) (l := h.rest.drop (halfN h.rest)) (by rw [eps, List.getElem?_append_right (by omega)]; simp) (mem_drop_at hi hl)
    rw [this]; omega
  · by_cases hs : ∃ l ∈ h.ps, u ∈ l
    · obtain ⟨l, hm, hu⟩ := hs
      obtain ⟨i, hi⟩ := List.getElem?_of_mem hm
      have hlt := (List.getElem?_eq_some_iff.1 hi).1
      rw [v.var_at hi hu, v'.var_at (j := i) (l := l) (by rw [eps, List.getElem?_append_left hlt]; exact hi) hu]
    · have hno : ∀ l ∈ h.ps, u ∉ l := fun l hl hu => hs ⟨l, hl, hu⟩
      rcases v.cover u u0 u1 with hr | hr | ⟨l, hl, hr⟩
      · exact absurd (v.var_rest hr) (by simpa using hx)
      · rw [v.var_named hr, v'.var_named (by rw [enm]; exact hr)]
      · exact absurd hr (hno l hl)
theorem halvesP {h : Hu} (v : Valid h) {x i : Nat} (v' : Valid (heard h x)) (hx : x ≠ 0) (hi : (x - 1) / 2 = i) (p : Part h.ps i) (h2 : 2 ≤ (sideOf h x).length) : Halves h x := by
  have hxl : x ≤ h.ps.length := by rw [p.length]; omega
  have hlr : h.ps[2 * i]? = some p.l ∧ h.ps[2 * i + 1]? = some p.r := ⟨p.g0, p.g1⟩
  have hs : sideOf h x = if x % 2 = 1 then p.l else p.r := by
    have := side_mem hx hxl
    by_cases ho : x % 2 = 1
    · rw [show x - 1 = 2 * i by omega, hlr.1] at this
      injection this with this
      rw [if_pos ho]; exact this.symm
    · rw [show x - 1 = 2 * i + 1 by omega, hlr.2] at this
      injection this with this
      rw [if_neg ho]; exact this.symm
  have eh := heard_pair hx hi p
  rw [← hs] at eh
  obtain ⟨s, es⟩ : ∃ s, s = sideOf h x := ⟨_, rfl⟩
  obtain ⟨o, eo⟩ : ∃ o, o = if x % 2 = 1 then p.r else p.l := ⟨_, rfl⟩
  rw [← es, ← eo] at eh
  have h1 : ¬ s.length = 1 := by rw [es]; omega
  have eps : (heard h x).ps = p.A ++ s.take (halfN s) :: s.drop (halfN s) :: p.B := by rw [eh]; simp [h1]
  have enm : (heard h x).named = h.named := by rw [eh]; simp [h1]
  have erest : (heard h x).rest = merged h.rest o := by rw [eh]
  have hb := half_lt (l := s) (by rw [es]; exact h2)
  have en : newAt h x = 2 * i := by rw [newAt, if_neg hx, hi]
  have g0 : (heard h x).ps[2 * i]? = some (s.take (halfN s)) := by rw [eps, List.getElem?_append_right (by rw [p.len]; omega), p.len]; simp
  have g1 : (heard h x).ps[2 * i + 1]? = some (s.drop (halfN s)) := by rw [eps, List.getElem?_append_right (by rw [p.len]; omega), p.len, show 2 * i + 1 - 2 * i = 1 by omega]; simp
  have gj : ∀ j, j ≠ 2 * i → j ≠ 2 * i + 1 → (heard h x).ps[j]? = h.ps[j]? := fun j hj1 hj2 => by
    rw [eps]
    refine Eq.trans ?_ (congrArg (fun q : List LI => q[j]?) p.eq).symm
    rcases Nat.lt_or_ge j (2 * i) with hlt | hge
    · rw [List.getElem?_append_left (by rw [p.len]; exact hlt), List.getElem?_append_left (by rw [p.len]; exact hlt)]
    · rw [List.getElem?_append_right (by rw [p.len]; exact hge), List.getElem?_append_right (by rw [p.len]; exact hge), p.len]
      obtain ⟨k, rfl⟩ : ∃ k, j = 2 * i + (k + 2) := ⟨j - 2 * i - 2, by omega⟩
      rw [show 2 * i + (k + 2) - 2 * i = k + 2 by omega]
      rfl
  refine ⟨fun q hq => ?_, fun q hq hl => ?_, fun u u0 u1 hxu h0 _ he => ?_, fun u u0 u1 hxu hne => ?_⟩
  · rw [← es] at hq ⊢; rw [en]
    exact v'.var_at g0 (mem_take_at hq (by omega))
  · rw [← es] at hq hl ⊢; rw [en]
    rw [v'.var_at g1 (mem_drop_at hq hl)]; omega
  · -- the other side
    have hu : u ∈ o := by
      by_cases hsd : ∃ l ∈ h.ps, u ∈ l
      · obtain ⟨l, hm, hu⟩ := hsd
        obtain ⟨j, hj⟩ := List.getElem?_of_mem hm
        rw [v.var_at hj hu] at he hxu
        rw [eo]
        by_cases ho : x % 2 = 1
        · have : j = 2 * i + 1 := by omega
          subst this
          rw [hlr.2] at hj; injection hj with hj
          rw [if_pos ho, hj]; exact hu
        · have : j = 2 * i := by omega
          subst this
          rw [hlr.1] at hj; injection hj with hj
          rw [if_neg ho, hj]; exact hu
      · have hno : ∀ l ∈ h.ps, u ∉ l := fun l hl hu => hsd ⟨l, hl, hu⟩
        rw [varF_no hno] at h0
        split at h0 <;> omega
    have h64 := v.u2
    exact v'.var_rest (by rw [erest]; exact mem_merged.2 ⟨⟨u0, by omega⟩, .inr hu⟩)
  · by_cases hsd : ∃ l ∈ h.ps, u ∈ l
    · obtain ⟨l, hm, hu⟩ := hsd
      obtain ⟨j, hj⟩ := List.getElem?_of_mem hm
      rw [v.var_at hj hu] at hne ⊢
      rw [v'.var_at (j := j) (l := l) (by rw [gj j (by omega) (by omega)]; exact hj) hu]
    · have hno : ∀ l ∈ h.ps, u ∉ l := fun l hl hu => hsd ⟨l, hl, hu⟩
      have h64 := v.u2
      rcases v.cover u u0 u1 with hr | hr | ⟨l, hl, hr⟩
      · rw [v.var_rest hr, v'.var_rest (by rw [erest]; exact mem_merged.2 ⟨⟨u0, by omega⟩, .inl hr⟩)]
      · rw [v.var_named hr, v'.var_named (by rw [enm]; exact hr)]
      · exact absurd hr (hno l hl)
end Go.Proofs.YtoegpalacppllaaGreat.Hn

/- Plain laws of hunts, in the words of the reference's loops. No program is in sight here. -/
namespace Go.Proofs.YtoegpalacppllaaGreat.Hn

theorem great_a {n m : Nat} {b G : Bool} (hg : (decide (100 < n) || decide (200 < m + n) || b) = G) (h : 100 < n ∨ 200 < m + n) : G = true := by
  subst hg
  rcases h with h | h <;> simp [h]
theorem great_b {n m : Nat} {b G : Bool} (hg : (decide (100 < n) || decide (200 < m + n) || b) = G) (h1 : ¬ 100 < n) (h2 : ¬ 200 < m + n) : b = G := by
  subst hg
  simp [h1, h2]
theorem great_end {gs : List LI} {i m : Nat} {G : Bool} (hg : greatTo (gs.drop i) m = G) (hl : gs.length ≤ i) : G = false := by
  rw [List.drop_eq_nil_iff.2 hl] at hg
  exact hg.symm
theorem greatB_end {h : Hu} {pn : Nat} (h0 : greatTo (groups h) 0 = false) (hp : pn * 2 = h.ps.length) : greatB h = decide (100 < pn) := by
  rw [greatB, h0, Bool.false_or]
  exact decide_eq_decide.2 (by omega)
end Go.Proofs.YtoegpalacppllaaGreat.Hn

/- How hunts stand in memory; makers that look at other makers; appends to what is empty. No function of the program is in sight here. -/
namespace Go.Proofs.YtoegpalacppllaaGreat
open Go.RowKit Pl Tr Hn

/-- a group of a hunt -/
theorem RdHu.grp {w : World} {h : Hu} {pa : Option Addr} {pn pc : Nat} {r q : Sl} {ss : List Sl} (k : RdHu w h ⟨pa, pn, pc⟩ r q ss) {i : Nat} (hi : i < 2 + 2 * pn) : ∃ s l, (r :: q :: ss)[i]? = some s ∧ (groups h)[i]? = some l ∧ RdI w s l := by
  have hn := k.pn
  have hl := k.len
  simp only at hn
  match i, hi with
  | 0, _ => exact ⟨r, h.rest, rfl, rfl, k.rest⟩
  | 1, _ => exact ⟨q, h.named, rfl, rfl, k.named⟩
  | i + 2, hi =>
    have h0 : ss[i]? = some ss[i] := List.getElem?_eq_getElem (by omega)
    have h1 : h.ps[i]? = some h.ps[i] := List.getElem?_eq_getElem (by omega)
    exact ⟨ss[i], h.ps[i], h0, h1, k.es i _ _ h0 h1⟩
section
variable {P : Program} {ops : Array Oper} {bs : List Value} {us : List (Nat × Value)} {ds : List Deferred} {w0 : Base} {W : World} {rest : List Oper} {o : Oper} {L : List Blk} {d : Nat} {v : Value}
variable {S : List Nat} {ks : List Kd} {ms : List Mk} {V : List (List Value)} {R : Act → St → Prop} {T : List Oper → Act → St → Prop}
end
end Go.Proofs.YtoegpalacppllaaGreat

/- Writing into all of a hunt in new memory; hunts that are heard are small. No function of the program is in sight here. -/
namespace Go.Proofs.YtoegpalacppllaaGreat
open Go.RowKit Pl Tr Hn

section
variable {P : Program} {ops : Array Oper} {Q : Exit → Act → World → Prop} {bs : List Value} {us : List (Nat × Value)} {ds : List Deferred} {w0 : Base} {W : World} {rest : List Oper} {o : Oper} {L B : List Blk} {d : Nat} {v : Value} {r : Option (Option Nat)} {m : Nat}
end
theorem vars_fit (h : Hu) : (varsR h).length ≤ 4294967296 := by
  cases hv : validB h with
  | false => rw [varsR_no hv]; simp
  | true =>
    have := ((valid_iff h).1 hv).u2
    rw [varsR_yes hv, vars_len]; omega
end Go.Proofs.YtoegpalacppllaaGreat

/- Closed facts on types and functions of the program, written by a program. -/
namespace Go.Proofs.YtoegpalacppllaaGreat
open Pl
theorem en31 : Enters Tryz.prog 31 := enters_of Tryz.func31 (by kernel_rfl) rfl
theorem en38 : Enters Tryz.prog 38 := enters_of Tryz.func38 (by kernel_rfl) rfl
theorem en87 : Enters Tryz.prog 87 := enters_of Tryz.func87 (by kernel_rfl) rfl
end Go.Proofs.YtoegpalacppllaaGreat

/- What a law's arguments are: opened by their types. -/
namespace Go.Proofs.YtoegpalacppllaaGreat
open Go.RowKit Go.ChangeShapes Go.WideShapes Pl

section
variable {P : Program} {W : World}

theorem arr_of {args : Array Value} {l : List Value} (h : args.toList = l) : args = l.toArray := by subst h; simp

end
end Go.Proofs.YtoegpalacppllaaGreat

/- Plain laws of subsets that are split, and of partitions. No program is in sight here. -/
namespace Go.Proofs.YtoegpalacppllaaGreat.Tr
open Hn

theorem merged_perm {a b : List Int} (hn : (a ++ b).Nodup) (hr : ∀ x ∈ a ++ b, 0 ≤ x ∧ x < 64) : (merged a b).Perm (a ++ b) := by
  rw [← merged_sort hn hr]; exact sortI_perm _
end Go.Proofs.YtoegpalacppllaaGreat.Tr

/- Groups of a hunt. -/
namespace Go.Proofs.YtoegpalacppllaaGreat
open Go.RowKit Pl
open Tr Hn
set_option maxRecDepth 10000 in
/-- headend/headendref08.Groups -/
theorem g_Groups (h : Hu) (pa : Option Addr) (pn pc : Nat) (r q : Sl) (ss : List Sl) (hfit : pn * 48 ≤ 140737488351232) : GivesX Tryz.prog 87 [.agg [.int .i64 h.users, .slice pa pn pc, .slice r.a r.n r.c, .slice q.a q.n q.c, .int .i64 h.rounds].toArray].toArray (fun w => RdHu w h ⟨pa, pn, pc⟩ r q ss) (NewSl 27 1 (2 + 2 * pn) (r.v :: q.v :: ss.map Sl.v)) := by
 refine givesX_of Tryz.func87 rfl (bs := [.agg [.int .i64 h.users, .slice pa pn pc, .slice r.a r.n r.c, .slice q.a q.n q.c, .int .i64 h.rounds].toArray, undef, undef, undef, undef, undef, undef, undef, undef, undef, undef, undef, undef, undef, undef, undef, undef, undef, undef, undef, undef, undef, undef, undef, undef, undef, undef, undef, undef, undef, undef, undef, undef]) rfl ?_
 intro w hP hW
 refine c_seq (c_reg ?_)
 refine xB hW ?_
 intro g1 W hW
 refine bS ?_
 refine l_end (n_then (c_seq (c_reg ?_)))
 refine l_val (r_fieldAddr 2 Tryz.underlying69 rfl tyC27.size rfl rfl rfl) rfl rfl ?_
 refine dC hW 0 tyC27 ?_
 refine l_val (r_fieldAddr 3 Tryz.underlying69 rfl tyC27.size rfl rfl rfl) rfl rfl ?_
 refine dC hW 0 tyC27 ?_
 refine l_buildSliceF hW (bsl150_2_0_1 _ _ _ _ _ _) rfl rfl rfl rfl ?_
 intro g0 W hW
 refine bS ?_
 refine l_end (n_then (c_seq (c_seq (c_reg ?_))))
 refine bI ?_
 refine l_end (n_then (c_block ?_))
 refine c_loop (fun (x : Nat × Option Addr × Nat × List Blk) (j : Nat → Value) => [.agg [.int .i64 h.users, .slice pa pn pc, .slice r.a r.n r.c, .slice q.a q.n q.c, .int .i64 h.rounds].toArray, .pointer (some ⟨g1, 0, none⟩), j 2, .slice x.2.1 (2 + 2 * x.1) x.2.2.1, .int .i64 (x.1 : Int), .pointer (some ⟨g1, 2, none⟩), .slice r.a r.n r.c, .pointer (some ⟨g1, 3, none⟩), .slice q.a q.n q.c, j 9, j 10, j 11, j 12, j 13, j 14, j 15, j 16, j 17, j 18, j 19, j 20, j 21, j 22, j 23, j 24, j 25, j 26, j 27, j 28, j 29, j 30, j 31, j 32]) (fun (x : Nat × Option Addr × Nat × List Blk) => [⟨g1, [.int .i64 h.users, .slice pa pn pc, .slice r.a r.n r.c, .slice q.a q.n q.c, .int .i64 h.rounds], 69⟩] ++ x.2.2.2) (fun (x : Nat × Option Addr × Nat × List Blk) => x.1 ≤ pn ∧ OwnSl 27 1 x.2.1 (2 + 2 * x.1) x.2.2.1 (r.v :: q.v :: (ss.take (2 * x.1)).map Sl.v) x.2.2.2) (fun (x : Nat × Option Addr × Nat × List Blk) => pn - x.1) (0, some ⟨g0, 0, none⟩, 2, [⟨g0, [r.v, q.v], 27⟩]) (by kernel_rfl) (hW.perm (List.Perm.swap _ _ _)) ⟨Nat.zero_le _, OwnSl.full rfl (by show 2 ≤ maxLen; decide)⟩ ?_
 intro x j W hx hW
 obtain ⟨hx, hO⟩ := hx
 refine c_seq (c_seq (c_reg ?_))
 refine aI ?_
 refine l_val (r_fieldAddr 1 Tryz.underlying69 rfl tyC67.size rfl rfl rfl) rfl rfl ?_
 refine dC hW 0 tyC67 ?_
 refine l_val (r_lenSlice Tryz.underlying67 rfl rfl) rfl rfl ?_
 refine l_val (r_lssN rfl rfl rfl rfl) rfl rfl ?_
 refine l_split ?_ ?_
 ·intro hc1
  replace hc1 := of_decide_eq_true hc1
  have hlt : x.1 < pn := by omega
  obtain ⟨b0, o0, rfl⟩ := hP.ptr (by omega)
  obtain ⟨s0, s1, e0, e1, ht, c0, c1⟩ := hP.side hlt
  refine l_end (n_then ?_)
  refine c_true rfl ?_
  refine c_skip (n_then (c_seq (c_block ?_)))
  refine c_regM hW [] [.q, .q, .q, .q, .q, .q, .q, .q, .q, .q, .q, .q, .q, .mk 0, .tail, .tail] [⟨30, bslX 27 2⟩] [[s0.v, s1.v]] [13] [0, 0, 2, 0, 14, 30, 62, 0, 128, 0, 896, 1920, 3968, 8190, 16383, 32767] (by kernel_rfl) (by kernel_rfl) rfl (by kernel_rfl) ?_
  refine yS ?_
  refine y_val (r_fieldAddr 1 Tryz.underlying69 rfl tyC67.size rfl rfl rfl) rfl rfl ?_
  refine y_loadC 0 tyC67 rfl rfl rfl rfl rfl rfl (by decide) ?_
  refine yI ?_
  refine y_val (r_indexAddrSl Tryz.underlying67 tyA146.size rfl rfl rfl (by omega)) rfl rfl ?_
  refine y_val (r_fieldAddr _ Tryz.underlying146 rfl tyC27.size rfl rfl rfl) rfl rfl ?_
  refine y_loadF tyC27 (v := s0.v) (c0) (by kernel_rfl) rfl rfl rfl ?_
  refine y_val (r_fieldAddr 1 Tryz.underlying69 rfl tyC67.size rfl rfl rfl) rfl rfl ?_
  refine y_loadC 0 tyC67 rfl rfl rfl rfl rfl rfl (by decide) ?_
  refine yI ?_
  refine y_val (r_indexAddrSl Tryz.underlying67 tyA146.size rfl rfl rfl (by omega)) rfl rfl ?_
  refine y_val (r_fieldAddr _ Tryz.underlying146 rfl tyC27.size rfl rfl rfl) rfl rfl ?_
  refine y_loadF tyC27 (v := s1.v) (c1) (by kernel_rfl) rfl rfl rfl ?_
  refine y_buildSliceF 0 (bsl150_2_0_1 _ _ _ _ _ _) rfl rfl rfl rfl ?_
  refine y_tail ?_
  refine y_made ?_
  rintro _ _ ⟨g2, rfl, rfl⟩
  intro W hW
  refine l_appendB tyE150 (L := [_, _]) hO hW 0 (N := 2 + 2 * (x.1 + 1)) (by omega) rfl rfl rfl rfl rfl rfl rfl (by simp [Value.oneCell']) (by unfold maxLen; omega) (by omega) ?_
  intro a1 c1 Bs1 W hO1 hW
  replace hO1 := hO1.castx rfl (xs' := r.v :: q.v :: (ss.take (2 * (x.1 + 1))).map Sl.v) (by rw [ht]; simp)
  refine bS ?_
  refine l_end (n_block (n_then (c_reg ?_)))
  refine aI ?_
  refine l_val (r_addN (n := 1) rfl rfl rfl (by omega)) rfl rfl ?_
  refine bI ?_
  refine l_end (n_then ?_)
  exact loop_next (x.1 + 1, a1, c1, Bs1) (by kernel_rfl) (hW.drop 1) ⟨by omega, hO1⟩ (by simp only; omega)
 ·intro hc1
  replace hc1 := of_decide_eq_false hc1
  have e : x.1 = pn := by omega
  have hss : ss.take (2 * x.1) = ss := List.take_of_length_le (by have := hP.pn; simp only at this; omega)
  rw [hss, e] at hO
  refine l_end (n_then ?_)
  refine c_false rfl ?_
  refine c_exit (x_then (x_then ?_))
  refine x_hit ?_
  refine n_then (c_seq (c_reg ?_))
  refine aS ?_
  refine bS ?_
  refine l_end (n_then (c_ret ?_))
  refine ret_tmp (v := .slice _ _ _) rfl rfl ?_
  exact ⟨_, _, rfl, ⟨_, _, by rw [e], hO⟩, hW.sub (List.sublist_append_right _ _)⟩

end Go.Proofs.YtoegpalacppllaaGreat

/- Whether a hunt is great. -/
namespace Go.Proofs.YtoegpalacppllaaGreat
open Go.RowKit Pl
open Tr Hn
set_option maxRecDepth 10000 in
/-- headend/headendref08.GreatHunt -/
theorem g_GreatHunt (h : Hu) (pa : Option Addr) (pn pc : Nat) (r q : Sl) (ss : List Sl) (hfit : pn * 48 ≤ 140737488351232) (hlen : ∀ l ∈ groups h, l.length ≤ 17592186043904) : GivesR Tryz.prog 38 [.agg [.int .i64 h.users, .slice pa pn pc, .slice r.a r.n r.c, .slice q.a q.n q.c, .int .i64 h.rounds].toArray].toArray (fun w => RdHu w h ⟨pa, pn, pc⟩ r q ss) (.bool (greatB h)) := by
 refine givesR_of Tryz.func38 rfl (bs := [.agg [.int .i64 h.users, .slice pa pn pc, .slice r.a r.n r.c, .slice q.a q.n q.c, .int .i64 h.rounds].toArray, undef, undef, undef, undef, undef, undef, undef, undef, undef, undef, undef, undef, undef, undef, undef, undef, undef, undef, undef, undef, undef, undef, undef, undef, undef, undef, undef, undef, undef, undef, undef, undef, undef, undef]) rfl ?_
 intro w hP hW
 refine c_seq (c_reg ?_)
 refine xB hW ?_
 intro g1 W hW
 refine bB ?_
 refine l_end (n_then (c_seq (c_reg ?_)))
 refine dA hW 0 tyA69 ?_
 refine l_callX hW (g_Groups h pa pn pc r q ss hfit) en87 (hP.past hW.below) rfl rfl rfl rfl ?_
 rintro _ Bs W ⟨a1, c1, rfl, hO⟩ hW
 obtain ⟨gq, cur, rfl, rfl, -, -, htk⟩ := hO.row (by omega)
 have hv : ∀ i (s : Sl), (r :: q :: ss)[i]? = some s → cur[i]? = some s.v := fun i s hs => take_get htk (by
  have := congrArg (Option.map Sl.v) hs
  rw [← List.getElem?_map] at this
  exact this)
 refine bS ?_
 refine l_end (n_then (c_seq (c_reg ?_)))
 refine bI ?_
 refine l_end (n_then (c_seq (c_seq (c_reg ?_))))
 refine bI ?_
 refine l_end (n_then (c_block ?_))
 refine c_loop (fun (x : Nat × Nat) (j : Nat → Value) => [.agg [.int .i64 h.users, .slice pa pn pc, .slice r.a r.n r.c, .slice q.a q.n q.c, .int .i64 h.rounds].toArray, .pointer (some ⟨g1, 0, none⟩), j 2, .slice (some ⟨gq, 0, none⟩) (2 + 2 * pn) c1, .int .i64 (x.2 : Int), .int .i64 (x.1 : Int), .agg ([.int .i64 h.users, .slice pa pn pc, .slice r.a r.n r.c, .slice q.a q.n q.c, .int .i64 h.rounds]).toArray, .slice (some ⟨gq, 0, none⟩) (2 + 2 * pn) c1, j 8, j 9, j 10, j 11, j 12, j 13, j 14, j 15, j 16, j 17, j 18, j 19, j 20, j 21, j 22, j 23, j 24, j 25, j 26, j 27, j 28, j 29, j 30, j 31, j 32, j 33, j 34]) (fun (x : Nat × Nat) => [⟨g1, [.int .i64 h.users, .slice pa pn pc, .slice r.a r.n r.c, .slice q.a q.n q.c, .int .i64 h.rounds], 69⟩, ⟨gq, cur, 27⟩]) (fun (x : Nat × Nat) => x.1 ≤ 2 + 2 * pn ∧ x.2 ≤ 200 ∧ greatTo ((groups h).drop x.1) x.2 = greatTo (groups h) 0) (fun (x : Nat × Nat) => 2 + 2 * pn - x.1) (0, 0) (by kernel_rfl) hW ⟨Nat.zero_le _, Nat.zero_le _, rfl⟩ ?_
 intro x j W hx hW
 obtain ⟨hx, hm, hg⟩ := hx
 refine c_seq (c_seq (c_reg ?_))
 refine aI ?_
 refine aS ?_
 refine l_val (r_lenSlice Tryz.underlying150 rfl rfl) rfl rfl ?_
 refine l_val (r_lssN rfl rfl rfl rfl) rfl rfl ?_
 refine l_split ?_ ?_
 ·intro hc1
  replace hc1 := of_decide_eq_true hc1
  have hi : x.1 < 2 + 2 * pn := by omega
  obtain ⟨s, l, e, f, hr⟩ := hP.grp hi
  have hs := hr.len
  have hll := hlen l (List.mem_of_getElem? f)
  rw [drop_at f, greatTo] at hg
  refine l_end (n_then ?_)
  refine c_true rfl ?_
  refine c_skip (n_then (c_seq (c_block (c_seq (c_reg ?_)))))
  refine aI ?_
  refine aS ?_
  refine aI ?_
  refine l_val (r_indexAddrSl1 (n := x.1) Tryz.underlying150 tyC27.size rfl rfl rfl (by omega)) rfl rfl ?_
  refine l_loadC hW 1 tyC27 (v := s.v) rfl rfl rfl rfl rfl (hv _ _ e) ?_
  refine l_val (r_lenSlice Tryz.underlying27 rfl rfl) rfl rfl ?_
  refine l_val (r_addN rfl rfl rfl (by omega)) rfl rfl ?_
  refine bI ?_
  refine l_end (n_then (c_seq (c_reg ?_)))
  refine aS ?_
  refine aI ?_
  refine l_val (r_indexAddrSl1 (n := x.1) Tryz.underlying150 tyC27.size rfl rfl rfl (by omega)) rfl rfl ?_
  refine l_loadC hW 1 tyC27 (v := s.v) rfl rfl rfl rfl rfl (hv _ _ e) ?_
  refine l_val (r_lenSlice Tryz.underlying27 rfl rfl) rfl rfl ?_
  refine l_val (r_gtrN (n := 100) rfl rfl rfl rfl) rfl rfl ?_
  refine l_split ?_ ?_
  ·intro hc2
   replace hc2 := of_decide_eq_true hc2
   refine aB ?_
   refine lN ?_
   refine lN ?_
   refine kB ?_
   refine l_end (n_then ?_)
   refine c_true rfl ?_
   refine c_seq (c_reg ?_)
   refine bB ?_
   refine l_end (n_then (c_ret (r_block (r_then (r_then (r_block (r_then ?_)))))))
   refine ret_tmp (v := .bool (greatB h)) rfl ?_ ⟨rfl, hW.below⟩
   rw [greatB, great_a hg (by omega)]; rfl
  ·intro hc2
   replace hc2 := of_decide_eq_false hc2
   refine aB ?_
   refine gI ?_
   refine l_valG (r_gtrN (n := 200) rfl rfl rfl rfl) (by kernel_rfl) rfl ?_
   refine l_split ?_ ?_
   ·intro hc3
    replace hc3 := of_decide_eq_true hc3
    refine kB ?_
    refine l_end (n_then ?_)
    refine c_true rfl ?_
    refine c_seq (c_reg ?_)
    refine bB ?_
    refine l_end (n_then (c_ret (r_block (r_then (r_then (r_block (r_then ?_)))))))
    refine ret_tmp (v := .bool (greatB h)) rfl ?_ ⟨rfl, hW.below⟩
    rw [greatB, great_a hg (by omega)]; rfl
   ·intro hc3
    replace hc3 := of_decide_eq_false hc3
    refine kB ?_
    refine l_end (n_then ?_)
    refine c_false rfl ?_
    refine c_skip (n_block (n_then (c_reg ?_)))
    refine aI ?_
    refine l_val (r_addN (n := 1) rfl rfl rfl (by omega)) rfl rfl ?_
    refine bI ?_
    refine l_end (n_then ?_)
    exact loop_next (x.1 + 1, x.2 + s.n) (by kernel_rfl) hW ⟨by omega, by simp only; omega, by simp only; rw [hs]; exact great_b hg (by omega) (by omega)⟩ (by simp only; omega)
 ·intro hc1
  replace hc1 := of_decide_eq_false hc1
  have h0 := great_end hg (by have := hP.gl; omega)
  refine l_end (n_then ?_)
  refine c_false rfl ?_
  refine c_exit (x_then (x_then ?_))
  refine x_hit ?_
  refine n_then (c_seq (c_reg ?_))
  refine l_val (r_fieldAddr 1 Tryz.underlying69 rfl tyC67.size rfl rfl rfl) rfl rfl ?_
  refine dC hW 0 tyC67 ?_
  refine l_val (r_lenSlice Tryz.underlying67 rfl rfl) rfl rfl ?_
  refine l_val (r_gtrN (n := 100) rfl rfl rfl rfl) rfl rfl ?_
  refine bB ?_
  refine l_end (n_then (c_ret ?_))
  refine ret_tmp (v := .bool (greatB h)) rfl ?_ ⟨rfl, hW.below⟩
  rw [greatB_end (pn := pn) h0 (by have := hP.pn; have := hP.len; simp only at *; omega)]; rfl

end Go.Proofs.YtoegpalacppllaaGreat

/- Plain laws of hunts that are heard, as the outright statements ask: who is named, who gets which variant. No program is in sight here. -/
namespace Go.Proofs.YtoegpalacppllaaGreat.Hn

theorem le_sumL : ∀ {gs : List LI} {l : LI}, l ∈ gs → l.length ≤ sumL gs
  | g :: gs, l, h => by
    rcases List.mem_cons.1 h with rfl | h
    · simp [sumL]
    · have := le_sumL h
      simp [sumL]; omega
theorem valid_small {h : Hu} (v : Valid h) : Small h := by
  have hs := v.sum
  have h2 := v.u2
  have hp := v.p
  exact ⟨fun l hl => by have := le_sumL hl; omega, by omega, by omega⟩
/-- a hunt that was heard -/
structure HearOk (h : Hu) (x : Int) : Prop where
  v : Valid h
  v' : Valid (hear h x).1
  x0 : 0 ≤ x
  xl : x.toNat ≤ h.ps.length
  eq : (hear h x).1 = heard h x.toNat
  r : h.rounds < 100000
theorem not_false {b : Bool} (h : ¬ b = false) : b = true := by
  cases b with
  | true => rfl
  | false => exact absurd rfl h
theorem hear_ok {h : Hu} {x : Int} (he : h.ps.length % 2 = 0) (h0 : (hear h x).2 = 0) : HearOk h x := by
  by_cases hv : validB h = false
  · rw [hear, if_pos hv] at h0; exact absurd h0 (by decide)
  · by_cases hx : x < 0 ∨ (h.ps.length : Int) < x ∨ (x = 0 ∧ h.rest = [])
    · rw [hear, if_neg hv, if_pos hx] at h0; exact absurd h0 (by decide)
    · by_cases hr : h.rounds = 100000
      · rw [hear, if_neg hv, if_neg hx, if_pos hr] at h0; exact absurd h0 (by decide)
      · have eq : (hear h x).1 = heard h x.toNat := by rw [hear, if_neg hv, if_neg hx, if_neg hr]
        have v : Valid h := (valid_iff h).1 (not_false hv)
        have hr2 := v.r2
        have hx0 : 0 ≤ x := by omega
        have hxl : x.toNat ≤ h.ps.length := by omega
        refine ⟨v, ?_, hx0, hxl, eq, by omega⟩
        rw [eq]
        by_cases hn : x.toNat = 0
        · rw [hn]
          exact v.heard0 he (by omega) fun e => hx (.inr (.inr ⟨by omega, e⟩))
        · have hp : 2 * ((x.toNat - 1) / 2) + 1 < h.ps.length := by omega
          exact v.heardP (by omega) hn rfl (part_of hp)
theorem chkH_zero {h : Hu} : chkH h = 0 ↔ validB h = true := by
  unfold chkH
  cases validB h <;> simp
theorem at_vars {h : Hu} {u : Nat} (hu : (u : Int) < h.users) : at_ (variants h) u = variantB h u := by
  have hl : u < h.users.toNat := by omega
  simp [at_, variants, rangeI, List.getD_eq_getElem?_getD, hl]
section
variable {h : Hu} {x : Int} (k : HearOk h x)
include k
theorem HearOk.chk : chkH (hear h x).1 = 0 := chkH_yes ((valid_iff _).2 k.v')
theorem HearOk.users : (hear h x).1.users = h.users := by rw [k.eq, users_heard]
theorem HearOk.rounds : (hear h x).1.rounds = h.rounds + 1 := by rw [k.eq, rounds_heard]
theorem HearOk.vars : varsR h = variants h := varsR_yes ((valid_iff _).2 k.v)
theorem HearOk.vars' : varsR (hear h x).1 = variants (hear h x).1 := varsR_yes ((valid_iff _).2 k.v')
theorem HearOk.len : (varsR h).length = h.users.toNat := by rw [k.vars, vars_len]
theorem HearOk.len' : (varsR (hear h x).1).length = h.users.toNat := by rw [k.vars', vars_len, k.users]
theorem HearOk.more : (hear h x).1.named.length = h.named.length ∨ (hear h x).1.named.length = h.named.length + 1 := by
  have := (k.v.whole k.xl).2.1
  rwa [← k.eq] at this
theorem HearOk.halves (he : h.ps.length % 2 = 0) (h2 : 2 ≤ (sideOf h x.toNat).length) : Halves h x.toNat := by
  have v' := k.v'
  rw [k.eq] at v'
  have hxl := k.xl
  by_cases hn : x.toNat = 0
  · rw [hn] at v' h2 ⊢
    exact halves0 k.v v' (by simpa [sideOf] using h2)
  · exact halvesP k.v v' hn rfl (part_of (by omega)) h2
end
/-- what those get afterwards who got a variant -/
def ownN (l m : LI) (x : Int) : Nat → LI
  | 0 => []
  | u + 1 => if at_ l u = x then ownN l m x u ++ [at_ m u] else ownN l m x u
theorem ownN_yes {l m : LI} {x : Int} {u : Nat} (h : at_ l u = x) : ownN l m x (u + 1) = ownN l m x u ++ [at_ m u] := if_pos h
theorem ownN_no {l m : LI} {x : Int} {u : Nat} (h : ¬ at_ l u = x) : ownN l m x (u + 1) = ownN l m x u := if_neg h
theorem ownN_eq {l m : LI} {x : Int} {f g : Int → Int} : ∀ {n : Nat}, (∀ u : Nat, u < n → at_ l u = f u ∧ at_ m u = g u) → ownN l m x n = ((rangeI n).filter fun u => decide (f u = x)).map g
  | 0, _ => rfl
  | n + 1, h => by
    have ih := ownN_eq (x := x) (n := n) fun u hu => h u (by omega)
    obtain ⟨h1, h2⟩ := h n (by omega)
    rw [rangeI_succ, List.filter_append, List.map_append, ← ih]
    by_cases hx : at_ l n = x
    · rw [ownN_yes hx, List.filter_cons_of_pos (by rw [← h1, hx]; exact decide_eq_true rfl), h2]; rfl
    · rw [ownN_no hx, List.filter_cons_of_neg (by rw [← h1]; simpa using hx)]; simp
section
variable {h : Hu} {x : Int} (k : HearOk h x)
include k
theorem HearOk.own : ownN (varsR h) (varsR (hear h x).1) x (varsR h).length = (sideOf h x.toNat).map (variantB (hear h x).1) := by
  have hx0 := k.x0
  have hu2 := k.v.u1
  rw [k.len, ownN_eq (f := variantB h) (g := variantB (hear h x).1) fun u hu => ⟨by rw [k.vars, at_vars (by omega)], by rw [k.vars', at_vars (by rw [k.users]; omega)]⟩, ← k.v.side_filter k.xl, Int.toNat_of_nonneg hx0]
/-- what they get: a number, and whether it is right -/
structure OwnOk (h : Hu) (x : Int) (own : LI) : Prop where
  nat : ∃ c : Nat, c % 2 = 0 ∧ (∀ i : Nat, i < (own.length + 1) / 2 → at_ own i = (c : Int) + 1) ∧ ∀ i : Nat, (own.length + 1) / 2 ≤ i → i < own.length → at_ own i = (c : Int) + 2
theorem HearOk.ownOk (he : h.ps.length % 2 = 0) {own : LI} (ho : own = ownN (varsR h) (varsR (hear h x).1) x (varsR h).length) (h2 : 2 ≤ own.length) : OwnOk h x own := by
  rw [k.own] at ho
  subst ho
  have hl : ((sideOf h x.toNat).map (variantB (hear h x).1)).length = (sideOf h x.toNat).length := List.length_map _
  rw [hl] at h2
  have hv := k.halves he h2
  have hat : ∀ i, i < (sideOf h x.toNat).length → at_ ((sideOf h x.toNat).map (variantB (hear h x).1)) i = variantB (hear h x).1 (at_ (sideOf h x.toNat) i) := fun i hi => by
    simp [at_, List.getD_eq_getElem?_getD, hi]
  refine ⟨newAt h x.toNat, ?_, fun i hi => ?_, fun i hi hi2 => ?_⟩
  · unfold newAt; split <;> omega
  · rw [hl] at hi
    rw [hat i (by omega), k.eq]
    exact hv.left i hi
  · rw [hl] at hi hi2
    rw [hat i hi2, k.eq]
    exact hv.right i hi hi2
/-- of the others -/
theorem HearOk.same (he : h.ps.length % 2 = 0) (h2 : 2 ≤ (ownN (varsR h) (varsR (hear h x).1) x (varsR h).length).length) {u : Nat} (hu : u < (varsR h).length) (hn : at_ (varsR h) u ≠ x) (h0 : 0 < at_ (varsR h) u) (hx : 0 < x) (hs : (at_ (varsR h) u - 1) / 2 = (x - 1) / 2) : at_ (varsR (hear h x).1) u = 0 := by
  have hx0 := k.x0
  have hu1 := k.v.u1
  rw [k.own, List.length_map] at h2
  have hv := k.halves he h2
  rw [k.len] at hu
  rw [k.vars, at_vars (by omega)] at hn h0 hs
  rw [k.vars', at_vars (by rw [k.users]; omega), k.eq]
  have e : ((x.toNat : Nat) : Int) = x := Int.toNat_of_nonneg hx0
  exact hv.same u (by omega) (by omega) (by rw [e]; exact hn) h0 (by omega) (by rw [e]; exact hs)
theorem HearOk.other (he : h.ps.length % 2 = 0) (h2 : 2 ≤ (ownN (varsR h) (varsR (hear h x).1) x (varsR h).length).length) {u : Nat} (hu : u < (varsR h).length) (hn : at_ (varsR h) u ≠ x) (hs : ¬ (0 < at_ (varsR h) u ∧ 0 < x ∧ (at_ (varsR h) u - 1) / 2 = (x - 1) / 2)) : at_ (varsR (hear h x).1) u = at_ (varsR h) u := by
  have hx0 := k.x0
  have hu1 := k.v.u1
  rw [k.own, List.length_map] at h2
  have hv := k.halves he h2
  rw [k.len] at hu
  rw [k.vars, at_vars (by omega)] at hn hs ⊢
  rw [k.vars', at_vars (by rw [k.users]; omega), k.eq]
  have e : ((x.toNat : Nat) : Int) = x := Int.toNat_of_nonneg hx0
  exact hv.other u (by omega) (by omega) (by rw [e]; exact hn) (by rw [e]; rintro ⟨a, b, c⟩; exact hs ⟨a, by omega, c⟩)
end
end Go.Proofs.YtoegpalacppllaaGreat.Hn

/- The law: who gets which variant after hearing one. -/
namespace Go.Proofs.YtoegpalacppllaaGreat
open Go.RowKit Pl
open Tr Hn
theorem hear_small {h : Hu} {x : Int} (he : h.ps.length % 2 = 0) : Small (hear h x).1 := by
 by_cases h0 : (hear h x).2 = 0
 ·exact valid_small (hear_ok he h0).v'
 ·have e : (hear h x).1 = noHunt := by
   by_cases hv : validB h = false
   ·rw [hear, if_pos hv]
   ·by_cases hx : x < 0 ∨ (h.ps.length : Int) < x ∨ (x = 0 ∧ h.rest = [])
    ·rw [hear, if_neg hv, if_pos hx]
    ·by_cases hr : h.rounds = 100000
     ·rw [hear, if_neg hv, if_neg hx, if_pos hr]
     ·exact absurd (by rw [hear, if_neg hv, if_neg hx, if_neg hr]) h0
  rw [e]; exact small_of rfl
theorem var_range {h : Hu} (v : Valid h) {u : Int} (h0 : 0 ≤ u) (h1 : u < h.users) : -1 ≤ variantB h u ∧ variantB h u ≤ h.ps.length := by
 rcases v.cover u h0 h1 with hc | hc | ⟨l, hl, hc⟩
 ·rw [v.var_rest hc]; omega
 ·rw [v.var_named hc]; omega
 ·obtain ⟨j, hj, hjl⟩ := List.getElem_of_mem hl
  rw [v.var_at (j := j) (by rw [List.getElem?_eq_getElem hj, hjl]) hc]; omega
theorem own_le {h : Hu} {x : Int} (k : HearOk h x) {i : Nat} (hi : i < (ownN (varsR h) (varsR (hear h x).1) x (varsR h).length).length) : at_ (ownN (varsR h) (varsR (hear h x).1) x (varsR h).length) i ≤ 128 := by
 rw [k.own] at hi ⊢
 rw [List.length_map] at hi
 have e : at_ ((sideOf h x.toNat).map (variantB (hear h x).1)) i = variantB (hear h x).1 (at_ (sideOf h x.toNat) i) := by simp [at_, List.getD_eq_getElem?_getD, hi]
 have h1 := k.v.side_range k.xl (at_mem hi)
 have h2 := (var_range k.v' h1.1 (by rw [k.users]; exact h1.2)).2
 have h3 := k.v'.p
 rw [e]; omega
theorem r_neqBool {P : Program} {bs : List Value} {us : List (Nat × Value)} {o : Oper} {t t' : Nat} {p q : Operand} {a b c : Bool} (ht : P.underlying t = some .bool) (ho : o.op = .binOp .neq t p q t') (hx : ev bs us p = .bool a) (hy : ev bs us q = .bool b) (hc : (!(a == b)) = c) : Runs P bs us o (.bool c) := fun w => by
 subst hc
 have h : (Op.equal t (.bool a) (.bool b)).run P w = .ok (a == b) w := run_equalBool 9999 ht a b w
 unfold execOp
 simp [ho, hx, hy, eqGuard, binOp, h]
set_option maxRecDepth 10000 in
set_option maxHeartbeats 2000000 in
/-- headend/headendlaw08.TraceHalves -/
theorem g_TraceHalves (h : Hu) (pa : Option Addr) (pn pc : Nat) (r q : Sl) (ss : List Sl) (x : Int) (hfit : pn * 48 ≤ 140737488351232) (hlen : ∀ l ∈ groups h, l.length ≤ 17592186043904) : GivesR Tryz.prog 7 [.agg [.int .i64 h.users, .slice pa pn pc, .slice r.a r.n r.c, .slice q.a q.n q.c, .int .i64 h.rounds].toArray, .int .i64 x].toArray (fun w => RdHu w h ⟨pa, pn, pc⟩ r q ss) (.bool true) := by
 refine givesR_of Tryz.func7 rfl (bs := [.agg [.int .i64 h.users, .slice pa pn pc, .slice r.a r.n r.c, .slice q.a q.n q.c, .int .i64 h.rounds].toArray, .int .i64 x, undef, undef, undef, undef, undef, undef, undef, undef, undef, undef, undef, undef, undef, undef, undef, undef, undef, undef, undef, undef, undef, undef, undef, undef, undef, undef, undef, undef, undef, undef, undef, undef, undef, undef, undef, undef, undef, undef, undef, undef, undef, undef, undef, undef, undef, undef, undef, undef, undef, undef, undef, undef, undef, undef, undef, undef, undef, undef, undef, undef, undef, undef, undef, undef, undef, undef, undef, undef, undef, undef, undef, undef, undef, undef, undef, undef, undef, undef, undef, undef, undef, undef, undef, undef, undef, undef, undef, undef, undef, undef, undef, undef, undef, undef, undef, undef, undef, undef, undef, undef, undef, undef, undef, undef, undef, undef, undef, undef, undef, undef, undef, undef, undef, undef, undef, undef, undef, undef, undef, undef, undef, undef, undef, undef, undef, undef, undef, undef, undef, undef, undef, undef, undef, undef, undef, undef, undef, undef, undef, undef, undef, undef, undef, undef, undef, undef, undef, undef, undef, undef, undef, undef, undef, undef, undef, undef, undef, undef, undef, undef, undef, undef, undef, undef, undef, undef, undef, undef, undef, undef, undef, undef, undef, undef, undef, undef, undef]) rfl ?_
 intro w hP hW
 refine c_seq (c_reg ?_)
 refine xB hW ?_
 intro g1 W hW
 refine bB ?_
 refine l_end (n_then (c_seq (c_reg ?_)))
 refine l_callR hW (Pre := fun _ => True) (fun w _ => g_alive w) en31 trivial rfl rfl rfl rfl ?_
 intro W hW
 refine bB ?_
 refine l_end (n_then (c_seq (c_seq (c_reg ?_))))
 refine dA hW 0 tyA69 ?_
 refine l_callR hW (g_GreatHunt h pa pn pc r q ss hfit hlen) en38 (hP.past hW.below) rfl rfl rfl rfl ?_
 intro W hW
 refine l_split ?_ ?_
 ·intro hc1
  refine aB ?_
  refine lN ?_
  refine lN ?_
  refine kB ?_
  refine l_end (n_then ?_)
  refine c_true rfl ?_
  refine c_seq (c_reg ?_)
  refine aB ?_
  refine bB ?_
  refine l_end (n_then (c_ret (r_then ?_)))
  refine ret_tmp (v := .bool true) rfl ?_ ⟨rfl, hW.below⟩
  rfl
 ·intro hc1
  have hsm := small_of hc1
  have hpp := hP.pn
  have hpl := hP.len
  simp only at hpp
  have hev : h.ps.length % 2 = 0 := by omega
  have hqn := hP.named.len
  have hL6 := vars_fit h
  have hsx := hear_small (x := x) hev
  refine aB ?_
  refine l_valG (r_move (v := .bool _) rfl rfl) (by kernel_rfl) rfl ?_
  refine l_valG (r_not rfl rfl) (by kernel_rfl) rfl ?_
  refine kB ?_
  refine l_end (n_then ?_)
  refine c_false rfl ?_
  refine c_skip (n_then (c_seq (c_reg ?_)))
  refine dA hW 0 tyA69 ?_
  refine l_callX hW (g_Variants h pa pn pc r q ss hsm hfit) en39 (hP.past hW.below) rfl rfl rfl rfl ?_
  rintro _ B6 W ⟨s6, rfl, n6⟩ hW
  refine l_val (r_move (v := .tuple _) rfl rfl) rfl rfl ?_
  refine l_val (r_extract (v := .slice _ _ _) rfl rfl rfl) rfl rfl ?_
  refine l_val (r_extract (v := .int _ _) rfl rfl rfl) rfl rfl ?_
  refine bS ?_
  refine bI ?_
  refine l_end (n_then (c_seq (c_reg ?_)))
  refine dA hW 0 tyA69 ?_
  refine aI ?_
  refine l_callX hW (g_Hear h pa pn pc r q ss x hsm hfit) en29 (hP.past hW.below) rfl rfl rfl rfl ?_
  rintro _ B8 W ⟨_, rfl, p8, r8, q8, ss8, rfl, n8⟩ hW
  refine l_val (r_move (v := .tuple _) rfl rfl) rfl rfl ?_
  refine l_val (r_extract (v := .agg _) rfl rfl rfl) rfl rfl ?_
  refine l_val (r_extract (v := .int _ _) rfl rfl rfl) rfl rfl ?_
  refine l_alloc hW tyZ69 rfl rfl rfl ?_
  intro g2 W hW
  refine sA hW 0 tyA69 ?_
  intro W hW
  refine bI ?_
  refine l_end (n_then (c_seq (c_reg ?_)))
  refine dA hW 0 tyA69 ?_
  have hn8 := (n8.rep.at (show Cl _ (([_, _] ++ B6) ++ B8) _ from hW) ((List.sublist_append_right _ B8)))
  have hx8 := hsx.ps
  have hp8 := hn8.pn
  have hp9 := hn8.len
  refine l_callX hW (g_Variants (hear h x).1 p8.a p8.n p8.c r8 q8 ss8 hsx (by omega)) en39 hn8 rfl rfl rfl rfl ?_
  rintro _ B9 W ⟨s9, rfl, n9⟩ hW
  refine l_val (r_move (v := .tuple _) rfl rfl) rfl rfl ?_
  refine l_val (r_extract (v := .slice _ _ _) rfl rfl rfl) rfl rfl ?_
  refine l_val (r_extract (v := .int _ _) rfl rfl rfl) rfl rfl ?_
  refine bS ?_
  refine bI ?_
  refine l_end (n_then (c_seq (c_seq (c_reg ?_))))
  refine aI ?_
  refine l_val (r_neq rfl rfl rfl rfl) rfl rfl ?_
  refine l_split ?_ ?_
  ·intro hc2
   replace hc2 := of_decide_eq_true hc2
   refine aB ?_
   refine lN ?_
   refine lN ?_
   refine kB ?_
   refine l_end (n_then ?_)
   refine c_true rfl ?_
   refine c_seq (c_reg ?_)
   refine aB ?_
   refine bB ?_
   refine l_end (n_then (c_ret (r_then ?_)))
   refine ret_tmp (v := .bool true) rfl ?_ ⟨rfl, hW.below⟩
   rfl
  ·intro hc2
   replace hc2 := of_decide_eq_false hc2
   have hv : validB h = true := chkH_zero.1 (by omega)
   refine aB ?_
   refine gI ?_
   refine l_valG (r_neqN (n := 0) rfl rfl rfl rfl) (by kernel_rfl) rfl ?_
   refine l_split ?_ ?_
   ·intro hc3
    replace hc3 := of_decide_eq_true hc3
    refine kB ?_
    refine l_end (n_then ?_)
    refine c_true rfl ?_
    refine c_seq (c_reg ?_)
    refine aB ?_
    refine bB ?_
    refine l_end (n_then (c_ret (r_then ?_)))
    refine ret_tmp (v := .bool true) rfl ?_ ⟨rfl, hW.below⟩
    rfl
   ·intro hc3
    replace hc3 := of_decide_eq_false hc3
    have ok0 : (hear h x).2 = 0 := by omega
    have k := hear_ok hev ok0
    have kx0 := k.x0
    have kxl := k.xl
    have kps := k.v.p
    have ku1 := k.v.u1
    obtain ⟨xN, hxN⟩ : ∃ n : Nat, x = (n : Int) := ⟨x.toNat, by omega⟩
    have kl := k.len
    have kl2 := k.len'
    have hs6 := n6.n
    have hs9 := n9.n
    refine kB ?_
    refine l_end (n_then ?_)
    refine c_false rfl ?_
    refine c_skip (n_then (c_seq (c_seq (c_reg ?_))))
    refine aI ?_
    refine l_val (r_neq rfl rfl rfl rfl) rfl rfl ?_
    refine l_split ?_ ?_
    ·intro hc4
     replace hc4 := of_decide_eq_true hc4
     exact absurd k.chk hc4
    ·intro hc4
     replace hc4 := of_decide_eq_false hc4
     refine aB ?_
     refine l_valG (r_move (v := .slice _ _ _) rfl rfl) (by kernel_rfl) rfl ?_
     refine l_valG (r_lenSlice Tryz.underlying27 rfl rfl) (by kernel_rfl) rfl ?_
     refine l_valG (r_move (v := .slice _ _ _) rfl rfl) (by kernel_rfl) rfl ?_
     refine l_valG (r_lenSlice Tryz.underlying27 rfl rfl) (by kernel_rfl) rfl ?_
     refine l_valG (r_neqN rfl rfl rfl rfl) (by kernel_rfl) rfl ?_
     refine l_split ?_ ?_
     ·intro hc5
      replace hc5 := of_decide_eq_true hc5
      omega
     ·intro hc5
      replace hc5 := of_decide_eq_false hc5
      refine kB ?_
      refine l_end (n_then ?_)
      refine c_false rfl ?_
      refine c_skip (n_then (c_seq (c_reg ?_)))
      refine bS ?_
      refine l_end (n_then (c_seq (c_seq (c_reg ?_))))
      refine aS ?_
      refine l_val (r_lenSlice Tryz.underlying27 rfl rfl) rfl rfl ?_
      refine aI ?_
      refine l_end (n_then (c_block ?_))
      refine c_loop (fun (o : Nat × Option Addr × Nat × Nat × List Blk) (j : Nat → Value) => [.agg [.int .i64 h.users, .slice pa pn pc, .slice r.a r.n r.c, .slice q.a q.n q.c, .int .i64 h.rounds].toArray, .int .i64 x, .pointer (some ⟨g1, 0, none⟩), j 3, .bool false, .bool true, .slice s6.a s6.n s6.c, .int .i64 (chkH h), .pointer (some ⟨g2, 0, none⟩), .int .i64 ((hear h x).2 : Int), .slice s9.a s9.n s9.c, .int .i64 (chkH (hear h x).1), .slice o.2.1 o.2.2.1 o.2.2.2.1, j 13, j 14, j 15, j 16, j 17, .bool true, .agg ([.int .i64 h.users, .slice pa pn pc, .slice r.a r.n r.c, .slice q.a q.n q.c, .int .i64 h.rounds]).toArray, .bool false, .bool false, .bool true, .bool false, .bool false, j 25, .tuple #[.slice s6.a s6.n s6.c, .int .i64 (chkH h)], .agg ([.int .i64 h.users, .slice pa pn pc, .slice r.a r.n r.c, .slice q.a q.n q.c, .int .i64 h.rounds]).toArray, .tuple #[.slice s6.a s6.n s6.c, .int .i64 (chkH h)], .slice s6.a s6.n s6.c, .int .i64 (chkH h), .tuple #[.agg [.int .i64 (hear h x).1.users, .slice p8.a p8.n p8.c, .slice r8.a r8.n r8.c, .slice q8.a q8.n q8.c, .int .i64 (hear h x).1.rounds].toArray, .int .i64 ((hear h x).2 : Int)], .agg ([.int .i64 h.users, .slice pa pn pc, .slice r.a r.n r.c, .slice q.a q.n q.c, .int .i64 h.rounds]).toArray, .int .i64 x, .tuple #[.agg [.int .i64 (hear h x).1.users, .slice p8.a p8.n p8.c, .slice r8.a r8.n r8.c, .slice q8.a q8.n q8.c, .int .i64 (hear h x).1.rounds].toArray, .int .i64 ((hear h x).2 : Int)], .agg [.int .i64 (hear h x).1.users, .slice p8.a p8.n p8.c, .slice r8.a r8.n r8.c, .slice q8.a q8.n q8.c, .int .i64 (hear h x).1.rounds].toArray, .int .i64 ((hear h x).2 : Int), .tuple #[.slice s9.a s9.n s9.c, .int .i64 (chkH (hear h x).1)], .agg ([.int .i64 (hear h x).1.users, .slice p8.a p8.n p8.c, .slice r8.a r8.n r8.c, .slice q8.a q8.n q8.c, .int .i64 (hear h x).1.rounds]).toArray, .tuple #[.slice s9.a s9.n s9.c, .int .i64 (chkH (hear h x).1)], .slice s9.a s9.n s9.c, .int .i64 (chkH (hear h x).1), .int .i64 (chkH h), .bool false, .bool false, .int .i64 ((hear h x).2 : Int), .bool false, .bool false, j 48, .int .i64 (chkH (hear h x).1), .bool false, .bool false, .slice s6.a s6.n s6.c, .int .i64 (s6.n : Int), .slice s9.a s9.n s9.c, .int .i64 (s9.n : Int), .bool false, .bool false, .slice s6.a s6.n s6.c, .int .i64 (s6.n : Int), .int .i64 (o.1 : Int), j 61, j 62, j 63, j 64, j 65, j 66, j 67, j 68, j 69, j 70, j 71, j 72, j 73, j 74, j 75, j 76, j 77, j 78, j 79, j 80, j 81, j 82, j 83, j 84, j 85, j 86, j 87, j 88, j 89, j 90, j 91, j 92, j 93, j 94, j 95, j 96, j 97, j 98, j 99, j 100, j 101, j 102, j 103, j 104, j 105, j 106, j 107, j 108, j 109, j 110, j 111, j 112, j 113, j 114, j 115, j 116, j 117, j 118, j 119, j 120, j 121, j 122, j 123, j 124, j 125, j 126, j 127, j 128, j 129, j 130, j 131, j 132, j 133, j 134, j 135, j 136, j 137, j 138, j 139, j 140, j 141, j 142, j 143, j 144, j 145, j 146, j 147, j 148, j 149, j 150, j 151, j 152, j 153, j 154, j 155, j 156, j 157, j 158, j 159, j 160, j 161, j 162, j 163, j 164, j 165, j 166, j 167, j 168, j 169, j 170, j 171, j 172, j 173, j 174, j 175, j 176, j 177, j 178]) (fun (o : Nat × Option Addr × Nat × Nat × List Blk) => [⟨g2, [.int .i64 (hear h x).1.users, .slice p8.a p8.n p8.c, .slice r8.a r8.n r8.c, .slice q8.a q8.n q8.c, .int .i64 (hear h x).1.rounds], 69⟩, ⟨g1, [.int .i64 h.users, .slice pa pn pc, .slice r.a r.n r.c, .slice q.a q.n q.c, .int .i64 h.rounds], 69⟩] ++ B6 ++ B8 ++ B9 ++ o.2.2.2.2) (fun (o : Nat × Option Addr × Nat × Nat × List Blk) => o.1 ≤ s6.n ∧ o.2.2.1 ≤ o.1 ∧ OwnSl 3 1 o.2.1 o.2.2.1 o.2.2.2.1 (il (ownN (varsR h) (varsR (hear h x).1) x o.1)) o.2.2.2.2) (fun (o : Nat × Option Addr × Nat × Nat × List Blk) => s6.n - o.1) (0, none, 0, 0, []) (by kernel_rfl) (by simpa using hW) ⟨Nat.zero_le _, Nat.zero_le _, OwnSl.nil 3 1⟩ ?_
      intro o j W hx hW
      obtain ⟨ho1, ho2, hO⟩ := hx
      refine c_seq (c_reg ?_)
      refine l_val (r_lssN rfl rfl rfl rfl) rfl rfl ?_
      refine l_split ?_ ?_
      ·intro hc6
       replace hc6 := of_decide_eq_true hc6
       obtain ⟨b3, o3, ha3, hd3⟩ := (n6.rep.at (show Cl _ (((([_, _] ++ B6) ++ B8) ++ B9) ++ o.2.2.2.2) _ from hW) (((((List.sublist_append_right _ B6).trans (List.sublist_append_left _ B8)).trans (List.sublist_append_left _ B9)).trans (List.sublist_append_left _ o.2.2.2.2)))).ptr (by omega)
       obtain ⟨b4, o4, ha4, hd4⟩ := (n9.rep.at (show Cl _ (((([_, _] ++ B6) ++ B8) ++ B9) ++ o.2.2.2.2) _ from hW) (((List.sublist_append_right _ B9).trans (List.sublist_append_left _ o.2.2.2.2)))).ptr (by omega)
       refine l_end (n_then (c_seq ?_))
       refine c_true rfl ?_
       refine c_skip (n_then (c_seq (c_block (c_seq (c_reg ?_)))))
       refine aI ?_
       refine bI ?_
       refine l_end (n_then (c_seq (c_reg ?_)))
       refine aS ?_
       refine aI ?_
       refine l_val (r_indexAddrSl2 (n := o.1) Tryz.underlying27 tyC3.size rfl (congrArg (fun a => Value.slice a s6.n s6.c) ha3) rfl (by omega)) rfl rfl ?_
       refine l_loadW tyC3 (v := .int .i64 (at_ (varsR h) (o.1))) (hd3 (o.1) (by omega)) rfl rfl rfl rfl ?_
       refine aI ?_
       refine l_val (r_eql rfl rfl rfl rfl) rfl rfl ?_
       refine l_split ?_ ?_
       ·intro hc7
        replace hc7 := of_decide_eq_true hc7
        refine l_end (n_then ?_)
        refine c_true rfl ?_
        refine c_reg ?_
        refine aS ?_
        refine aS ?_
        refine aI ?_
        refine l_val (r_indexAddrSl2 (n := o.1) Tryz.underlying27 tyC3.size rfl (congrArg (fun a => Value.slice a s9.n s9.c) ha4) rfl (by omega)) rfl rfl ?_
        refine l_loadW tyC3 (v := .int .i64 (at_ (varsR (hear h x).1) (o.1))) (hd4 (o.1) (by omega)) rfl rfl rfl rfl ?_
        refine l_buildSliceF hW (bsl27_1_0 _) rfl rfl rfl rfl ?_
        intro gb W hW
        refine l_appendB tyE27 (L := ((([_, _, _] ++ B6) ++ B8) ++ B9)) hO hW 0 (N := o.2.2.1 + 1) rfl rfl rfl rfl rfl rfl rfl rfl (by simp [Value.oneCell']) (by unfold maxLen; omega) (by omega) ?_
        intro a1 c1 Bs1 W hO1 hW
        replace hO1 := hO1.castx rfl (xs' := il (ownN (varsR h) (varsR (hear h x).1) x (o.1 + 1))) (by rw [ownN_yes hc7, il_append]; rfl)
        refine bS ?_
        refine l_end (n_block (n_then (c_reg ?_)))
        refine l_val (r_addN (n := 1) rfl rfl rfl (by omega)) rfl rfl ?_
        refine aI ?_
        refine l_end (n_then ?_)
        exact loop_next (o.1 + 1, a1, o.2.2.1 + 1, c1, Bs1) (by kernel_rfl) (hW.drop 1) ⟨by simp only; omega, by simp only; omega, hO1⟩ (by simp only; omega)
       ·intro hc7
        replace hc7 := of_decide_eq_false hc7
        refine l_end (n_then ?_)
        refine c_false rfl ?_
        refine c_skip (n_block (n_then (c_reg ?_)))
        refine l_val (r_addN (n := 1) rfl rfl rfl (by omega)) rfl rfl ?_
        refine aI ?_
        refine l_end (n_then ?_)
        exact loop_next (o.1 + 1, o.2.1, o.2.2.1, o.2.2.2.1, o.2.2.2.2) (by kernel_rfl) hW ⟨by simp only; omega, by simp only; omega, by simp only; rw [ownN_no hc7]; exact hO⟩ (by simp only; omega)
      ·intro hc6
       replace hc6 := of_decide_eq_false hc6
       have hoe : o.1 = (varsR h).length := by omega
       rw [hoe] at hO
       have hol : o.2.2.1 = (ownN (varsR h) (varsR (hear h x).1) x (varsR h).length).length := by have := hO.1; rw [il_len] at this; omega
       refine l_end (n_then (c_seq ?_))
       refine c_false rfl ?_
       refine c_exit (x_then (x_then ?_))
       refine x_hit ?_
       refine n_then (c_seq (c_seq (c_reg ?_)))
       refine aS ?_
       refine l_val (r_lenSlice Tryz.underlying27 rfl rfl) rfl rfl ?_
       refine l_val (r_lssN (n := 2) rfl rfl rfl rfl) rfl rfl ?_
       refine l_split ?_ ?_
       ·intro hc8
        replace hc8 := of_decide_eq_true hc8
        refine l_end (n_then ?_)
        refine c_true rfl ?_
        refine c_seq (c_reg ?_)
        refine aB ?_
        refine bB ?_
        refine l_end (n_then (c_ret (r_then ?_)))
        refine ret_tmp (v := .bool true) rfl ?_ ⟨rfl, hW.below⟩
        rfl
       ·intro hc8
        replace hc8 := of_decide_eq_false hc8
        obtain ⟨cN, hc2, hcl, hcr⟩ := (k.ownOk hev rfl (by omega)).nat
        rw [← hol] at hcl hcr
        obtain ⟨b5, o5, ha5, hd5⟩ := (hO.rep.at (show Cl _ (((([_, _] ++ B6) ++ B8) ++ B9) ++ o.2.2.2.2) _ from hW) ((List.sublist_append_right _ o.2.2.2.2))).ptr (by omega)
        have hq0 : at_ (ownN (varsR h) (varsR (hear h x).1) x (varsR h).length) 0 = ((cN + 1 : Nat) : Int) := by rw [hcl 0 (by omega)]; omega
        have hcb : cN ≤ 127 := by
         have := own_le k (i := 0) (by rw [← hol]; omega)
         omega
        refine l_end (n_then ?_)
        refine c_false rfl ?_
        refine c_skip (n_then (c_seq (c_reg ?_)))
        refine aS ?_
        refine l_val (r_lenSlice Tryz.underlying27 rfl rfl) rfl rfl ?_
        refine l_val (r_addN (n := 1) rfl rfl rfl (by omega)) rfl rfl ?_
        refine l_val (r_quoN (n := 2) rfl rfl rfl (by omega) (by omega)) rfl rfl ?_
        refine bI ?_
        refine l_end (n_then (c_seq (c_seq (c_reg ?_))))
        refine aS ?_
        refine l_val (r_lenSlice Tryz.underlying27 rfl rfl) rfl rfl ?_
        refine aI ?_
        refine l_end (n_then (c_block ?_))
        refine c_loop (fun (i : Nat) (j : Nat → Value) => [.agg [.int .i64 h.users, .slice pa pn pc, .slice r.a r.n r.c, .slice q.a q.n q.c, .int .i64 h.rounds].toArray, .int .i64 x, .pointer (some ⟨g1, 0, none⟩), j 3, j 4, .bool true, .slice s6.a s6.n s6.c, .int .i64 (chkH h), .pointer (some ⟨g2, 0, none⟩), .int .i64 ((hear h x).2 : Int), .slice s9.a s9.n s9.c, .int .i64 (chkH (hear h x).1), .slice o.2.1 o.2.2.1 o.2.2.2.1, j 13, .int .i64 (((o.2.2.1 + 1) / 2 : Nat) : Int), j 15, j 16, j 17, .bool true, .agg ([.int .i64 h.users, .slice pa pn pc, .slice r.a r.n r.c, .slice q.a q.n q.c, .int .i64 h.rounds]).toArray, .bool false, .bool false, .bool true, .bool false, .bool false, j 25, .tuple #[.slice s6.a s6.n s6.c, .int .i64 (chkH h)], .agg ([.int .i64 h.users, .slice pa pn pc, .slice r.a r.n r.c, .slice q.a q.n q.c, .int .i64 h.rounds]).toArray, .tuple #[.slice s6.a s6.n s6.c, .int .i64 (chkH h)], .slice s6.a s6.n s6.c, .int .i64 (chkH h), .tuple #[.agg [.int .i64 (hear h x).1.users, .slice p8.a p8.n p8.c, .slice r8.a r8.n r8.c, .slice q8.a q8.n q8.c, .int .i64 (hear h x).1.rounds].toArray, .int .i64 ((hear h x).2 : Int)], .agg ([.int .i64 h.users, .slice pa pn pc, .slice r.a r.n r.c, .slice q.a q.n q.c, .int .i64 h.rounds]).toArray, .int .i64 x, .tuple #[.agg [.int .i64 (hear h x).1.users, .slice p8.a p8.n p8.c, .slice r8.a r8.n r8.c, .slice q8.a q8.n q8.c, .int .i64 (hear h x).1.rounds].toArray, .int .i64 ((hear h x).2 : Int)], .agg [.int .i64 (hear h x).1.users, .slice p8.a p8.n p8.c, .slice r8.a r8.n r8.c, .slice q8.a q8.n q8.c, .int .i64 (hear h x).1.rounds].toArray, .int .i64 ((hear h x).2 : Int), .tuple #[.slice s9.a s9.n s9.c, .int .i64 (chkH (hear h x).1)], .agg ([.int .i64 (hear h x).1.users, .slice p8.a p8.n p8.c, .slice r8.a r8.n r8.c, .slice q8.a q8.n q8.c, .int .i64 (hear h x).1.rounds]).toArray, .tuple #[.slice s9.a s9.n s9.c, .int .i64 (chkH (hear h x).1)], .slice s9.a s9.n s9.c, .int .i64 (chkH (hear h x).1), .int .i64 (chkH h), .bool false, .bool false, .int .i64 ((hear h x).2 : Int), .bool false, .bool false, j 48, .int .i64 (chkH (hear h x).1), .bool false, .bool false, .slice s6.a s6.n s6.c, .int .i64 (s6.n : Int), .slice s9.a s9.n s9.c, .int .i64 (s9.n : Int), .bool false, .bool false, .slice s6.a s6.n s6.c, .int .i64 (s6.n : Int), j 60, .bool false, j 62, j 63, j 64, j 65, j 66, j 67, j 68, j 69, j 70, j 71, j 72, j 73, j 74, j 75, j 76, j 77, j 78, .bool false, j 80, j 81, j 82, j 83, j 84, .slice o.2.1 o.2.2.1 o.2.2.2.1, .int .i64 (o.2.2.1 : Int), .int .i64 (i : Int), j 88, j 89, j 90, j 91, j 92, j 93, j 94, j 95, j 96, j 97, j 98, j 99, j 100, j 101, j 102, j 103, j 104, j 105, j 106, j 107, j 108, j 109, j 110, j 111, j 112, j 113, j 114, j 115, j 116, j 117, j 118, j 119, j 120, j 121, j 122, j 123, j 124, j 125, j 126, j 127, j 128, j 129, j 130, j 131, j 132, j 133, j 134, j 135, j 136, j 137, j 138, j 139, j 140, j 141, j 142, j 143, j 144, j 145, j 146, j 147, j 148, j 149, j 150, j 151, j 152, j 153, j 154, j 155, j 156, j 157, j 158, j 159, j 160, j 161, j 162, j 163, j 164, j 165, j 166, j 167, j 168, j 169, j 170, j 171, j 172, j 173, j 174, j 175, j 176, j 177, j 178]) (fun (i : Nat) => [⟨g2, [.int .i64 (hear h x).1.users, .slice p8.a p8.n p8.c, .slice r8.a r8.n r8.c, .slice q8.a q8.n q8.c, .int .i64 (hear h x).1.rounds], 69⟩, ⟨g1, [.int .i64 h.users, .slice pa pn pc, .slice r.a r.n r.c, .slice q.a q.n q.c, .int .i64 h.rounds], 69⟩] ++ B6 ++ B8 ++ B9 ++ o.2.2.2.2) (fun (i : Nat) => i ≤ o.2.2.1) (fun (i : Nat) => o.2.2.1 - i) 0 (by kernel_rfl) hW (Nat.zero_le _) ?_
        intro i j W hx hW
        refine c_seq (c_reg ?_)
        refine l_val (r_lssN rfl rfl rfl rfl) rfl rfl ?_
        refine l_split ?_ ?_
        ·intro hc9
         replace hc9 := of_decide_eq_true hc9
         obtain ⟨q, hq, hq2⟩ : ∃ q : Nat, at_ (ownN (varsR h) (varsR (hear h x).1) x (varsR h).length) i = (q : Int) ∧ (i < (o.2.2.1 + 1) / 2 ∧ q = cN + 1 ∨ (o.2.2.1 + 1) / 2 ≤ i ∧ q = cN + 2) := by
          rcases Nat.lt_or_ge i ((o.2.2.1 + 1) / 2) with hi | hi
          ·exact ⟨cN + 1, by rw [hcl i hi]; omega, .inl ⟨hi, rfl⟩⟩
          ·exact ⟨cN + 2, by rw [hcr i hi (by omega)]; omega, .inr ⟨hi, rfl⟩⟩
         have hbq : (!(decide (q % 2 = 0) == decide (i ≥ (o.2.2.1 + 1) / 2))) = false := by
          have e : (q % 2 = 0) = (i ≥ (o.2.2.1 + 1) / 2) := propext (by omega)
          simp [e]
         refine l_end (n_then (c_seq ?_))
         refine c_true rfl ?_
         refine c_skip (n_then (c_seq (c_block (c_seq (c_reg ?_)))))
         refine aI ?_
         refine bI ?_
         refine l_end (n_then (c_seq ?_))
         refine c_regY hW [] [.q, .q, .q, .q, .q, .q, .q, .q, .q, .q, .q, .q, .q, .q, .q, .q, .q, .q, .q, .q, .q, .q, .q, .q, .q, .q, .q, .q, .q, .q, .q] [0, 0, 3, 7, 15, 31, 63, 63, 255, 511, 1023, 2047, 63, 63, 12351, 32767, 65535, 131071, 262143, 262143, 1048575, 2097151, 4194303, 8388607, 262143, 17039359, 50593791, 117702655, 251920383, 536870911, 1073741823] (by kernel_rfl) (by kernel_rfl) ?_
         refine yS ?_
         refine yI ?_
         refine y_val (r_indexAddrSl2 (n := i) Tryz.underlying27 tyC3.size rfl (congrArg (fun a => Value.slice a o.2.2.1 o.2.2.2.1) ha5) rfl (by omega)) rfl rfl ?_
         refine y_loadR tyC3 (v := .int .i64 (q : Int)) (fun L2 w hs hC => by
          obtain ⟨b6, o6, ha6, hd6⟩ := (hO.rep.at hC (((List.sublist_append_right _ o.2.2.2.2)).trans hs.pre)).ptr (by omega)
          rw [ha5] at ha6
          simp only [Option.some.injEq, Addr.mk.injEq, and_true] at ha6
          obtain ⟨rfl, rfl⟩ := ha6
          exact (hd6 (i) (by omega)).trans (congrArg (fun x => some (IV x)) hq)) rfl rfl rfl rfl ?_
         refine y_val (r_lssN (b := false) (n := 1) rfl rfl rfl (decide_eq_false (by omega))) rfl rfl ?_
         refine yB ?_
         refine y_val (r_move (v := .slice _ _ _) rfl rfl) (by kernel_rfl) rfl ?_
         refine y_val (r_move (v := .int _ _) rfl rfl) (by kernel_rfl) rfl ?_
         refine y_val (r_indexAddrSl2 (n := i) Tryz.underlying27 tyC3.size rfl (congrArg (fun a => Value.slice a o.2.2.1 o.2.2.2.1) ha5) rfl (by omega)) (by kernel_rfl) rfl ?_
         refine y_loadR tyC3 (v := .int .i64 (q : Int)) (fun L2 w hs hC => by
          obtain ⟨b6, o6, ha6, hd6⟩ := (hO.rep.at hC (((List.sublist_append_right _ o.2.2.2.2)).trans hs.pre)).ptr (by omega)
          rw [ha5] at ha6
          simp only [Option.some.injEq, Addr.mk.injEq, and_true] at ha6
          obtain ⟨rfl, rfl⟩ := ha6
          exact (hd6 (i) (by omega)).trans (congrArg (fun x => some (IV x)) hq)) (by kernel_rfl) rfl rfl rfl ?_
         refine y_val (r_remN (n := 2) rfl rfl rfl (by omega)) (by kernel_rfl) rfl ?_
         refine y_val (r_eqlN (n := 0) rfl rfl rfl rfl) (by kernel_rfl) rfl ?_
         refine y_val (r_move (v := .int _ _) rfl rfl) (by kernel_rfl) rfl ?_
         refine y_val (r_move (v := .int _ _) rfl rfl) (by kernel_rfl) rfl ?_
         refine y_val (r_geqN rfl rfl rfl rfl) (by kernel_rfl) rfl ?_
         refine y_val (r_neqBool Tryz.underlying4 rfl rfl rfl hbq) (by kernel_rfl) rfl ?_
         refine yK ?_
         refine yB ?_
         refine y_val (r_move (v := .slice _ _ _) rfl rfl) (by kernel_rfl) rfl ?_
         refine y_val (r_move (v := .int _ _) rfl rfl) (by kernel_rfl) rfl ?_
         refine y_val (r_indexAddrSl2 (n := i) Tryz.underlying27 tyC3.size rfl (congrArg (fun a => Value.slice a o.2.2.1 o.2.2.2.1) ha5) rfl (by omega)) (by kernel_rfl) rfl ?_
         refine y_loadR tyC3 (v := .int .i64 (q : Int)) (fun L2 w hs hC => by
          obtain ⟨b6, o6, ha6, hd6⟩ := (hO.rep.at hC (((List.sublist_append_right _ o.2.2.2.2)).trans hs.pre)).ptr (by omega)
          rw [ha5] at ha6
          simp only [Option.some.injEq, Addr.mk.injEq, and_true] at ha6
          obtain ⟨rfl, rfl⟩ := ha6
          exact (hd6 (i) (by omega)).trans (congrArg (fun x => some (IV x)) hq)) (by kernel_rfl) rfl rfl rfl ?_
         refine y_val (r_subN (n := 1) rfl rfl rfl (by omega) (by omega)) (by kernel_rfl) rfl ?_
         refine y_val (r_quoN (n := 2) rfl rfl rfl (by omega) (by omega)) (by kernel_rfl) rfl ?_
         refine y_val (r_move (v := .slice _ _ _) rfl rfl) (by kernel_rfl) rfl ?_
         refine y_val (r_indexAddrSl2 (n := 0) Tryz.underlying27 tyC3.size rfl (congrArg (fun a => Value.slice a o.2.2.1 o.2.2.2.1) ha5) rfl (by omega)) (by kernel_rfl) rfl ?_
         refine y_loadR tyC3 (v := .int .i64 ((cN + 1 : Nat) : Int)) (fun L2 w hs hC => by
          obtain ⟨b6, o6, ha6, hd6⟩ := (hO.rep.at hC (((List.sublist_append_right _ o.2.2.2.2)).trans hs.pre)).ptr (by omega)
          rw [ha5] at ha6
          simp only [Option.some.injEq, Addr.mk.injEq, and_true] at ha6
          obtain ⟨rfl, rfl⟩ := ha6
          exact (hd6 (0) (by omega)).trans (congrArg (fun x => some (IV x)) hq0)) (by kernel_rfl) rfl rfl rfl ?_
         refine y_val (r_subN (n := 1) rfl rfl rfl (by omega) (by omega)) (by kernel_rfl) rfl ?_
         refine y_val (r_quoN (n := 2) rfl rfl rfl (by omega) (by omega)) (by kernel_rfl) rfl ?_
         refine y_val (r_neqN (b := false) rfl rfl rfl (decide_eq_false (by omega))) (by kernel_rfl) rfl ?_
         refine yK ?_
         refine y_end ?_
         intro W hW
         refine n_then ?_
         refine c_false rfl ?_
         refine c_skip (n_block (n_then (c_reg ?_)))
         refine l_val (r_addN (n := 1) rfl rfl rfl (by omega)) rfl rfl ?_
         refine aI ?_
         refine l_end (n_then ?_)
         exact loop_next (i + 1) (by kernel_rfl) hW (by omega) (by omega)
        ·intro hc9
         replace hc9 := of_decide_eq_false hc9
         refine l_end (n_then (c_seq ?_))
         refine c_false rfl ?_
         refine c_exit (x_then (x_then ?_))
         refine x_hit ?_
         refine n_then (c_seq (c_seq (c_reg ?_)))
         refine aS ?_
         refine l_val (r_lenSlice Tryz.underlying27 rfl rfl) rfl rfl ?_
         refine aI ?_
         refine l_end (n_then (c_block ?_))
         refine c_loop (fun (u : Nat) (j : Nat → Value) => [.agg [.int .i64 h.users, .slice pa pn pc, .slice r.a r.n r.c, .slice q.a q.n q.c, .int .i64 h.rounds].toArray, .int .i64 x, .pointer (some ⟨g1, 0, none⟩), j 3, j 4, .bool true, .slice s6.a s6.n s6.c, .int .i64 (chkH h), .pointer (some ⟨g2, 0, none⟩), .int .i64 ((hear h x).2 : Int), .slice s9.a s9.n s9.c, .int .i64 (chkH (hear h x).1), j 12, j 13, j 14, j 15, j 16, j 17, .bool true, .agg ([.int .i64 h.users, .slice pa pn pc, .slice r.a r.n r.c, .slice q.a q.n q.c, .int .i64 h.rounds]).toArray, .bool false, .bool false, .bool true, .bool false, .bool false, j 25, .tuple #[.slice s6.a s6.n s6.c, .int .i64 (chkH h)], .agg ([.int .i64 h.users, .slice pa pn pc, .slice r.a r.n r.c, .slice q.a q.n q.c, .int .i64 h.rounds]).toArray, .tuple #[.slice s6.a s6.n s6.c, .int .i64 (chkH h)], .slice s6.a s6.n s6.c, .int .i64 (chkH h), .tuple #[.agg [.int .i64 (hear h x).1.users, .slice p8.a p8.n p8.c, .slice r8.a r8.n r8.c, .slice q8.a q8.n q8.c, .int .i64 (hear h x).1.rounds].toArray, .int .i64 ((hear h x).2 : Int)], .agg ([.int .i64 h.users, .slice pa pn pc, .slice r.a r.n r.c, .slice q.a q.n q.c, .int .i64 h.rounds]).toArray, .int .i64 x, .tuple #[.agg [.int .i64 (hear h x).1.users, .slice p8.a p8.n p8.c, .slice r8.a r8.n r8.c, .slice q8.a q8.n q8.c, .int .i64 (hear h x).1.rounds].toArray, .int .i64 ((hear h x).2 : Int)], .agg [.int .i64 (hear h x).1.users, .slice p8.a p8.n p8.c, .slice r8.a r8.n r8.c, .slice q8.a q8.n q8.c, .int .i64 (hear h x).1.rounds].toArray, .int .i64 ((hear h x).2 : Int), .tuple #[.slice s9.a s9.n s9.c, .int .i64 (chkH (hear h x).1)], .agg ([.int .i64 (hear h x).1.users, .slice p8.a p8.n p8.c, .slice r8.a r8.n r8.c, .slice q8.a q8.n q8.c, .int .i64 (hear h x).1.rounds]).toArray, .tuple #[.slice s9.a s9.n s9.c, .int .i64 (chkH (hear h x).1)], .slice s9.a s9.n s9.c, .int .i64 (chkH (hear h x).1), .int .i64 (chkH h), .bool false, .bool false, .int .i64 ((hear h x).2 : Int), .bool false, .bool false, j 48, .int .i64 (chkH (hear h x).1), .bool false, .bool false, .slice s6.a s6.n s6.c, .int .i64 (s6.n : Int), .slice s9.a s9.n s9.c, .int .i64 (s9.n : Int), .bool false, .bool false, .slice s6.a s6.n s6.c, .int .i64 (s6.n : Int), j 60, .bool false, j 62, j 63, j 64, j 65, j 66, j 67, j 68, j 69, j 70, j 71, j 72, j 73, j 74, j 75, j 76, j 77, j 78, .bool false, j 80, j 81, j 82, j 83, j 84, j 85, j 86, j 87, .bool false, j 89, j 90, j 91, j 92, j 93, j 94, j 95, j 96, j 97, j 98, j 99, j 100, j 101, j 102, j 103, j 104, j 105, j 106, j 107, j 108, j 109, j 110, j 111, j 112, j 113, j 114, j 115, j 116, j 117, j 118, j 119, j 120, j 121, .slice s6.a s6.n s6.c, .int .i64 (s6.n : Int), .int .i64 (u : Int), j 125, j 126, j 127, j 128, j 129, j 130, j 131, j 132, j 133, j 134, j 135, j 136, j 137, j 138, j 139, j 140, j 141, j 142, j 143, j 144, j 145, j 146, j 147, j 148, j 149, j 150, j 151, j 152, j 153, j 154, j 155, j 156, j 157, j 158, j 159, j 160, j 161, j 162, j 163, j 164, j 165, j 166, j 167, j 168, j 169, j 170, j 171, j 172, j 173, j 174, j 175, j 176, j 177, j 178]) (fun (u : Nat) => [⟨g2, [.int .i64 (hear h x).1.users, .slice p8.a p8.n p8.c, .slice r8.a r8.n r8.c, .slice q8.a q8.n q8.c, .int .i64 (hear h x).1.rounds], 69⟩, ⟨g1, [.int .i64 h.users, .slice pa pn pc, .slice r.a r.n r.c, .slice q.a q.n q.c, .int .i64 h.rounds], 69⟩] ++ B6 ++ B8 ++ B9 ++ o.2.2.2.2) (fun (u : Nat) => u ≤ s6.n) (fun (u : Nat) => s6.n - u) 0 (by kernel_rfl) hW (Nat.zero_le _) ?_
         intro u j W hx hW
         refine c_seq (c_reg ?_)
         refine l_val (r_lssN rfl rfl rfl rfl) rfl rfl ?_
         refine l_split ?_ ?_
         ·intro hc10
          replace hc10 := of_decide_eq_true hc10
          obtain ⟨b3, o3, ha3, hd3⟩ := (n6.rep.at (show Cl _ (((([_, _] ++ B6) ++ B8) ++ B9) ++ o.2.2.2.2) _ from hW) (((((List.sublist_append_right _ B6).trans (List.sublist_append_left _ B8)).trans (List.sublist_append_left _ B9)).trans (List.sublist_append_left _ o.2.2.2.2)))).ptr (by omega)
          obtain ⟨b4, o4, ha4, hd4⟩ := (n9.rep.at (show Cl _ (((([_, _] ++ B6) ++ B8) ++ B9) ++ o.2.2.2.2) _ from hW) (((List.sublist_append_right _ B9).trans (List.sublist_append_left _ o.2.2.2.2)))).ptr (by omega)
          have hvr := var_range k.v (u := (u : Int)) (by omega) (by omega)
          have hatu : at_ (varsR h) u = variantB h u := by rw [k.vars, at_vars (by omega)]
          refine l_end (n_then (c_seq ?_))
          refine c_true rfl ?_
          refine c_skip (n_then (c_seq (c_block (c_seq (c_reg ?_)))))
          refine aI ?_
          refine bI ?_
          refine l_end (n_then (c_seq (c_reg ?_)))
          refine aS ?_
          refine aI ?_
          refine l_val (r_indexAddrSl2 (n := u) Tryz.underlying27 tyC3.size rfl (congrArg (fun a => Value.slice a s6.n s6.c) ha3) rfl (by omega)) rfl rfl ?_
          refine l_loadW tyC3 (v := .int .i64 (at_ (varsR h) (u))) (hd3 (u) (by omega)) rfl rfl rfl rfl ?_
          refine l_val (r_gtr rfl rfl rfl rfl) rfl rfl ?_
          refine l_split ?_ ?_
          ·intro hc11
           replace hc11 := of_decide_eq_true hc11
           obtain ⟨lu, hlu⟩ : ∃ lu : Nat, at_ (varsR h) u = (lu : Int) := ⟨(at_ (varsR h) u).toNat, by omega⟩
           refine aB ?_
           refine gI ?_
           refine l_valG (r_gtr rfl rfl rfl rfl) (by kernel_rfl) rfl ?_
           refine l_split ?_ ?_
           ·intro hc12
            replace hc12 := of_decide_eq_true hc12
            refine kB ?_
            refine aB ?_
            refine l_valG (r_move (v := .slice _ _ _) rfl rfl) (by kernel_rfl) rfl ?_
            refine gI ?_
            refine l_valG (r_indexAddrSl2 (n := u) Tryz.underlying27 tyC3.size rfl (congrArg (fun a => Value.slice a s6.n s6.c) ha3) rfl (by omega)) (by kernel_rfl) rfl ?_
            refine l_loadW tyC3 (v := .int .i64 (lu : Int)) ((hd3 u (by omega)).trans (congrArg (fun x => some (IV x)) hlu)) (by kernel_rfl) rfl rfl rfl ?_
            refine l_valG (r_subN (n := 1) rfl rfl rfl (by omega) (by omega)) (by kernel_rfl) rfl ?_
            refine l_valG (r_quoN (n := 2) rfl rfl rfl (by omega) (by omega)) (by kernel_rfl) rfl ?_
            refine gI ?_
            refine l_valG (r_subN (m := xN) (n := 1) rfl (congrArg (Value.int .i64) hxN) rfl (by omega) (by omega)) (by kernel_rfl) rfl ?_
            refine l_valG (r_quoN (n := 2) rfl rfl rfl (by omega) (by omega)) (by kernel_rfl) rfl ?_
            refine l_valG (r_eqlN rfl rfl rfl rfl) (by kernel_rfl) rfl ?_
            refine l_split ?_ ?_
            ·intro hc13
             replace hc13 := of_decide_eq_true hc13
             refine kB ?_
             refine bB ?_
             refine l_end (n_then (c_block (c_seq (c_reg ?_))))
             refine aS ?_
             refine aI ?_
             refine l_val (r_indexAddrSl2 (n := u) Tryz.underlying27 tyC3.size rfl (congrArg (fun a => Value.slice a s6.n s6.c) ha3) rfl (by omega)) rfl rfl ?_
             refine l_loadW tyC3 (v := .int .i64 (at_ (varsR h) (u))) (hd3 (u) (by omega)) rfl rfl rfl rfl ?_
             refine aI ?_
             refine l_val (r_eql rfl rfl rfl rfl) rfl rfl ?_
             refine l_split ?_ ?_
             ·intro hc14
              replace hc14 := of_decide_eq_true hc14
              refine bB ?_
              refine l_end (n_then ?_)
              refine c_true rfl ?_
              refine c_skip (n_block (n_block (n_then (c_reg ?_))))
              refine l_val (r_addN (n := 1) rfl rfl rfl (by omega)) rfl rfl ?_
              refine aI ?_
              refine l_end (n_then ?_)
              exact loop_next (u + 1) (by kernel_rfl) hW (by omega) (by omega)
             ·intro hc14
              replace hc14 := of_decide_eq_false hc14
              refine bB ?_
              refine l_end (n_then ?_)
              refine c_false rfl ?_
              refine c_seq (c_seq (c_reg ?_))
              refine aB ?_
              refine aB ?_
              refine l_valG (r_move (v := .slice _ _ _) rfl rfl) (by kernel_rfl) rfl ?_
              refine gI ?_
              refine l_valG (r_indexAddrSl2 (n := u) Tryz.underlying27 tyC3.size rfl (congrArg (fun a => Value.slice a s9.n s9.c) ha4) rfl (by omega)) (by kernel_rfl) rfl ?_
              refine l_loadW tyC3 (v := .int .i64 (at_ (varsR (hear h x).1) (u))) (hd4 (u) (by omega)) (by kernel_rfl) rfl rfl rfl ?_
              refine l_valG (r_neq rfl rfl rfl rfl) (by kernel_rfl) rfl ?_
              refine l_split ?_ ?_
              ·intro hc15
               replace hc15 := of_decide_eq_true hc15
               exact absurd (k.same hev (by omega) (u := u) (by omega) hc14 (by omega) (by omega) (by omega)) hc15
              ·intro hc15
               replace hc15 := of_decide_eq_false hc15
               refine kB ?_
               refine bB ?_
               refine l_end (n_then ?_)
               refine c_false rfl ?_
               refine c_regY hW [] [.q, .q, .q, .q, .q, .q, .q, .q, .q, .q, .q, .q, .q, .q] [0, 1, 3, 7, 7, 31, 63, 7, 7, 391, 903, 2047, 4095, 8191] (by kernel_rfl) (by kernel_rfl) ?_
               refine yB ?_
               refine y_val (r_not rfl rfl) rfl rfl ?_
               refine yB ?_
               refine yN ?_
               refine yN ?_
               refine yN ?_
               refine yN ?_
               refine yN ?_
               refine yN ?_
               refine yN ?_
               refine yN ?_
               refine yN ?_
               refine yK ?_
               refine y_val (r_assign (v := .bool _) rfl rfl) rfl rfl ?_
               refine y_end ?_
               intro W hW
               refine n_then ?_
               refine c_false rfl ?_
               refine c_skip (n_block (n_block (n_then (c_reg ?_))))
               refine l_val (r_addN (n := 1) rfl rfl rfl (by omega)) rfl rfl ?_
               refine aI ?_
               refine l_end (n_then ?_)
               exact loop_next (u + 1) (by kernel_rfl) hW (by omega) (by omega)
            ·intro hc13
             replace hc13 := of_decide_eq_false hc13
             refine kB ?_
             refine bB ?_
             refine l_end (n_then (c_block (c_seq (c_reg ?_))))
             refine aS ?_
             refine aI ?_
             refine l_val (r_indexAddrSl2 (n := u) Tryz.underlying27 tyC3.size rfl (congrArg (fun a => Value.slice a s6.n s6.c) ha3) rfl (by omega)) rfl rfl ?_
             refine l_loadW tyC3 (v := .int .i64 (at_ (varsR h) (u))) (hd3 (u) (by omega)) rfl rfl rfl rfl ?_
             refine aI ?_
             refine l_val (r_eql rfl rfl rfl rfl) rfl rfl ?_
             refine l_split ?_ ?_
             ·intro hc16
              replace hc16 := of_decide_eq_true hc16
              refine bB ?_
              refine l_end (n_then ?_)
              refine c_true rfl ?_
              refine c_skip (n_block (n_block (n_then (c_reg ?_))))
              refine l_val (r_addN (n := 1) rfl rfl rfl (by omega)) rfl rfl ?_
              refine aI ?_
              refine l_end (n_then ?_)
              exact loop_next (u + 1) (by kernel_rfl) hW (by omega) (by omega)
             ·intro hc16
              replace hc16 := of_decide_eq_false hc16
              refine bB ?_
              refine l_end (n_then ?_)
              refine c_false rfl ?_
              refine c_seq (c_seq (c_reg ?_))
              refine aB ?_
              refine aB ?_
              refine lN ?_
              refine lN ?_
              refine lN ?_
              refine lN ?_
              refine lN ?_
              refine kB ?_
              refine bB ?_
              refine l_end (n_then ?_)
              refine c_false rfl ?_
              refine c_regY hW [] [.q, .q, .q, .q, .q, .q, .q, .q, .q, .q, .q, .q, .q, .q] [0, 1, 3, 7, 7, 31, 63, 7, 7, 391, 903, 2047, 4095, 8191] (by kernel_rfl) (by kernel_rfl) ?_
              refine yB ?_
              refine y_val (r_not rfl rfl) rfl rfl ?_
              refine yB ?_
              refine y_val (r_move (v := .slice _ _ _) rfl rfl) (by kernel_rfl) rfl ?_
              refine y_val (r_move (v := .int _ _) rfl rfl) (by kernel_rfl) rfl ?_
              refine y_val (r_indexAddrSl2 (n := u) Tryz.underlying27 tyC3.size rfl (congrArg (fun a => Value.slice a s9.n s9.c) ha4) rfl (by omega)) (by kernel_rfl) rfl ?_
              refine y_loadR tyC3 (v := .int .i64 (at_ (varsR (hear h x).1) u)) (fun L2 w hs hC => by
               obtain ⟨b6, o6, ha6, hd6⟩ := (n9.rep.at hC ((((List.sublist_append_right _ B9).trans (List.sublist_append_left _ o.2.2.2.2))).trans hs.pre)).ptr (by omega)
               rw [ha4] at ha6
               simp only [Option.some.injEq, Addr.mk.injEq, and_true] at ha6
               obtain ⟨rfl, rfl⟩ := ha6
               exact hd6 (u) (by omega)) (by kernel_rfl) rfl rfl rfl ?_
              refine y_val (r_move (v := .slice _ _ _) rfl rfl) (by kernel_rfl) rfl ?_
              refine y_val (r_move (v := .int _ _) rfl rfl) (by kernel_rfl) rfl ?_
              refine y_val (r_indexAddrSl2 (n := u) Tryz.underlying27 tyC3.size rfl (congrArg (fun a => Value.slice a s6.n s6.c) ha3) rfl (by omega)) (by kernel_rfl) rfl ?_
              refine y_loadR tyC3 (v := .int .i64 (at_ (varsR h) u)) (fun L2 w hs hC => by
               obtain ⟨b6, o6, ha6, hd6⟩ := (n6.rep.at hC ((((((List.sublist_append_right _ B6).trans (List.sublist_append_left _ B8)).trans (List.sublist_append_left _ B9)).trans (List.sublist_append_left _ o.2.2.2.2))).trans hs.pre)).ptr (by omega)
               rw [ha3] at ha6
               simp only [Option.some.injEq, Addr.mk.injEq, and_true] at ha6
               obtain ⟨rfl, rfl⟩ := ha6
               exact hd6 (u) (by omega)) (by kernel_rfl) rfl rfl rfl ?_
              refine y_val (r_neq rfl rfl rfl rfl) (by kernel_rfl) rfl ?_
              refine y_split ?_ ?_
              ·intro hc17
               replace hc17 := of_decide_eq_true hc17
               exact absurd (k.other hev (by omega) (u := u) (by omega) hc16 (by omega)) hc17
              ·intro hc17
               replace hc17 := of_decide_eq_false hc17
               refine yK ?_
               refine y_val (r_assign (v := .bool _) rfl rfl) rfl rfl ?_
               refine y_end ?_
               intro W hW
               refine n_then ?_
               refine c_false rfl ?_
               refine c_skip (n_block (n_block (n_then (c_reg ?_))))
               refine l_val (r_addN (n := 1) rfl rfl rfl (by omega)) rfl rfl ?_
               refine aI ?_
               refine l_end (n_then ?_)
               exact loop_next (u + 1) (by kernel_rfl) hW (by omega) (by omega)
           ·intro hc12
            replace hc12 := of_decide_eq_false hc12
            refine kB ?_
            refine aB ?_
            refine lN ?_
            refine lN ?_
            refine lN ?_
            refine lN ?_
            refine lN ?_
            refine lN ?_
            refine lN ?_
            refine lN ?_
            refine lN ?_
            refine lN ?_
            refine kB ?_
            refine bB ?_
            refine l_end (n_then (c_block (c_seq (c_reg ?_))))
            refine aS ?_
            refine aI ?_
            refine l_val (r_indexAddrSl2 (n := u) Tryz.underlying27 tyC3.size rfl (congrArg (fun a => Value.slice a s6.n s6.c) ha3) rfl (by omega)) rfl rfl ?_
            refine l_loadW tyC3 (v := .int .i64 (at_ (varsR h) (u))) (hd3 (u) (by omega)) rfl rfl rfl rfl ?_
            refine aI ?_
            refine l_val (r_eql rfl rfl rfl rfl) rfl rfl ?_
            refine l_split ?_ ?_
            ·intro hc18
             replace hc18 := of_decide_eq_true hc18
             refine bB ?_
             refine l_end (n_then ?_)
             refine c_true rfl ?_
             refine c_skip (n_block (n_block (n_then (c_reg ?_))))
             refine l_val (r_addN (n := 1) rfl rfl rfl (by omega)) rfl rfl ?_
             refine aI ?_
             refine l_end (n_then ?_)
             exact loop_next (u + 1) (by kernel_rfl) hW (by omega) (by omega)
            ·intro hc18
             replace hc18 := of_decide_eq_false hc18
             refine bB ?_
             refine l_end (n_then ?_)
             refine c_false rfl ?_
             refine c_seq (c_seq (c_reg ?_))
             refine aB ?_
             refine aB ?_
             refine lN ?_
             refine lN ?_
             refine lN ?_
             refine lN ?_
             refine lN ?_
             refine kB ?_
             refine bB ?_
             refine l_end (n_then ?_)
             refine c_false rfl ?_
             refine c_regY hW [] [.q, .q, .q, .q, .q, .q, .q, .q, .q, .q, .q, .q, .q, .q] [0, 1, 3, 7, 7, 31, 63, 7, 7, 391, 903, 2047, 4095, 8191] (by kernel_rfl) (by kernel_rfl) ?_
             refine yB ?_
             refine y_val (r_not rfl rfl) rfl rfl ?_
             refine yB ?_
             refine y_val (r_move (v := .slice _ _ _) rfl rfl) (by kernel_rfl) rfl ?_
             refine y_val (r_move (v := .int _ _) rfl rfl) (by kernel_rfl) rfl ?_
             refine y_val (r_indexAddrSl2 (n := u) Tryz.underlying27 tyC3.size rfl (congrArg (fun a => Value.slice a s9.n s9.c) ha4) rfl (by omega)) (by kernel_rfl) rfl ?_
             refine y_loadR tyC3 (v := .int .i64 (at_ (varsR (hear h x).1) u)) (fun L2 w hs hC => by
              obtain ⟨b6, o6, ha6, hd6⟩ := (n9.rep.at hC ((((List.sublist_append_right _ B9).trans (List.sublist_append_left _ o.2.2.2.2))).trans hs.pre)).ptr (by omega)
              rw [ha4] at ha6
              simp only [Option.some.injEq, Addr.mk.injEq, and_true] at ha6
              obtain ⟨rfl, rfl⟩ := ha6
              exact hd6 (u) (by omega)) (by kernel_rfl) rfl rfl rfl ?_
             refine y_val (r_move (v := .slice _ _ _) rfl rfl) (by kernel_rfl) rfl ?_
             refine y_val (r_move (v := .int _ _) rfl rfl) (by kernel_rfl) rfl ?_
             refine y_val (r_indexAddrSl2 (n := u) Tryz.underlying27 tyC3.size rfl (congrArg (fun a => Value.slice a s6.n s6.c) ha3) rfl (by omega)) (by kernel_rfl) rfl ?_
             refine y_loadR tyC3 (v := .int .i64 (at_ (varsR h) u)) (fun L2 w hs hC => by
              obtain ⟨b6, o6, ha6, hd6⟩ := (n6.rep.at hC ((((((List.sublist_append_right _ B6).trans (List.sublist_append_left _ B8)).trans (List.sublist_append_left _ B9)).trans (List.sublist_append_left _ o.2.2.2.2))).trans hs.pre)).ptr (by omega)
              rw [ha3] at ha6
              simp only [Option.some.injEq, Addr.mk.injEq, and_true] at ha6
              obtain ⟨rfl, rfl⟩ := ha6
              exact hd6 (u) (by omega)) (by kernel_rfl) rfl rfl rfl ?_
             refine y_val (r_neq rfl rfl rfl rfl) (by kernel_rfl) rfl ?_
             refine y_split ?_ ?_
             ·intro hc19
              replace hc19 := of_decide_eq_true hc19
              exact absurd (k.other hev (by omega) (u := u) (by omega) hc18 (by omega)) hc19
             ·intro hc19
              replace hc19 := of_decide_eq_false hc19
              refine yK ?_
              refine y_val (r_assign (v := .bool _) rfl rfl) rfl rfl ?_
              refine y_end ?_
              intro W hW
              refine n_then ?_
              refine c_false rfl ?_
              refine c_skip (n_block (n_block (n_then (c_reg ?_))))
              refine l_val (r_addN (n := 1) rfl rfl rfl (by omega)) rfl rfl ?_
              refine aI ?_
              refine l_end (n_then ?_)
              exact loop_next (u + 1) (by kernel_rfl) hW (by omega) (by omega)
          ·intro hc11
           replace hc11 := of_decide_eq_false hc11
           refine aB ?_
           refine lN ?_
           refine lN ?_
           refine kB ?_
           refine aB ?_
           refine lN ?_
           refine lN ?_
           refine lN ?_
           refine lN ?_
           refine lN ?_
           refine lN ?_
           refine lN ?_
           refine lN ?_
           refine lN ?_
           refine lN ?_
           refine kB ?_
           refine bB ?_
           refine l_end (n_then (c_block (c_seq (c_reg ?_))))
           refine aS ?_
           refine aI ?_
           refine l_val (r_indexAddrSl2 (n := u) Tryz.underlying27 tyC3.size rfl (congrArg (fun a => Value.slice a s6.n s6.c) ha3) rfl (by omega)) rfl rfl ?_
           refine l_loadW tyC3 (v := .int .i64 (at_ (varsR h) (u))) (hd3 (u) (by omega)) rfl rfl rfl rfl ?_
           refine aI ?_
           refine l_val (r_eql rfl rfl rfl rfl) rfl rfl ?_
           refine l_split ?_ ?_
           ·intro hc20
            replace hc20 := of_decide_eq_true hc20
            refine bB ?_
            refine l_end (n_then ?_)
            refine c_true rfl ?_
            refine c_skip (n_block (n_block (n_then (c_reg ?_))))
            refine l_val (r_addN (n := 1) rfl rfl rfl (by omega)) rfl rfl ?_
            refine aI ?_
            refine l_end (n_then ?_)
            exact loop_next (u + 1) (by kernel_rfl) hW (by omega) (by omega)
           ·intro hc20
            replace hc20 := of_decide_eq_false hc20
            refine bB ?_
            refine l_end (n_then ?_)
            refine c_false rfl ?_
            refine c_seq (c_seq (c_reg ?_))
            refine aB ?_
            refine aB ?_
            refine lN ?_
            refine lN ?_
            refine lN ?_
            refine lN ?_
            refine lN ?_
            refine kB ?_
            refine bB ?_
            refine l_end (n_then ?_)
            refine c_false rfl ?_
            refine c_regY hW [] [.q, .q, .q, .q, .q, .q, .q, .q, .q, .q, .q, .q, .q, .q] [0, 1, 3, 7, 7, 31, 63, 7, 7, 391, 903, 2047, 4095, 8191] (by kernel_rfl) (by kernel_rfl) ?_
            refine yB ?_
            refine y_val (r_not rfl rfl) rfl rfl ?_
            refine yB ?_
            refine y_val (r_move (v := .slice _ _ _) rfl rfl) (by kernel_rfl) rfl ?_
            refine y_val (r_move (v := .int _ _) rfl rfl) (by kernel_rfl) rfl ?_
            refine y_val (r_indexAddrSl2 (n := u) Tryz.underlying27 tyC3.size rfl (congrArg (fun a => Value.slice a s9.n s9.c) ha4) rfl (by omega)) (by kernel_rfl) rfl ?_
            refine y_loadR tyC3 (v := .int .i64 (at_ (varsR (hear h x).1) u)) (fun L2 w hs hC => by
             obtain ⟨b6, o6, ha6, hd6⟩ := (n9.rep.at hC ((((List.sublist_append_right _ B9).trans (List.sublist_append_left _ o.2.2.2.2))).trans hs.pre)).ptr (by omega)
             rw [ha4] at ha6
             simp only [Option.some.injEq, Addr.mk.injEq, and_true] at ha6
             obtain ⟨rfl, rfl⟩ := ha6
             exact hd6 (u) (by omega)) (by kernel_rfl) rfl rfl rfl ?_
            refine y_val (r_move (v := .slice _ _ _) rfl rfl) (by kernel_rfl) rfl ?_
            refine y_val (r_move (v := .int _ _) rfl rfl) (by kernel_rfl) rfl ?_
            refine y_val (r_indexAddrSl2 (n := u) Tryz.underlying27 tyC3.size rfl (congrArg (fun a => Value.slice a s6.n s6.c) ha3) rfl (by omega)) (by kernel_rfl) rfl ?_
            refine y_loadR tyC3 (v := .int .i64 (at_ (varsR h) u)) (fun L2 w hs hC => by
             obtain ⟨b6, o6, ha6, hd6⟩ := (n6.rep.at hC ((((((List.sublist_append_right _ B6).trans (List.sublist_append_left _ B8)).trans (List.sublist_append_left _ B9)).trans (List.sublist_append_left _ o.2.2.2.2))).trans hs.pre)).ptr (by omega)
             rw [ha3] at ha6
             simp only [Option.some.injEq, Addr.mk.injEq, and_true] at ha6
             obtain ⟨rfl, rfl⟩ := ha6
             exact hd6 (u) (by omega)) (by kernel_rfl) rfl rfl rfl ?_
            refine y_val (r_neq rfl rfl rfl rfl) (by kernel_rfl) rfl ?_
            refine y_split ?_ ?_
            ·intro hc21
             replace hc21 := of_decide_eq_true hc21
             exact absurd (k.other hev (by omega) (u := u) (by omega) hc20 (by omega)) hc21
            ·intro hc21
             replace hc21 := of_decide_eq_false hc21
             refine yK ?_
             refine y_val (r_assign (v := .bool _) rfl rfl) rfl rfl ?_
             refine y_end ?_
             intro W hW
             refine n_then ?_
             refine c_false rfl ?_
             refine c_skip (n_block (n_block (n_then (c_reg ?_))))
             refine l_val (r_addN (n := 1) rfl rfl rfl (by omega)) rfl rfl ?_
             refine aI ?_
             refine l_end (n_then ?_)
             exact loop_next (u + 1) (by kernel_rfl) hW (by omega) (by omega)
         ·intro hc10
          replace hc10 := of_decide_eq_false hc10
          refine l_end (n_then (c_seq ?_))
          refine c_false rfl ?_
          refine c_exit (x_then (x_then ?_))
          refine x_hit ?_
          refine n_then (c_seq (c_reg ?_))
          refine aB ?_
          refine bB ?_
          refine l_end (n_then (c_ret ?_))
          refine ret_tmp (v := .bool true) rfl ?_ ⟨rfl, hW.below⟩
          rfl

end Go.Proofs.YtoegpalacppllaaGreat

/- For every hunt that is not great and every variant that is heard: of a side or a rest of two users or more the users get two different variants of one pair afterwards, as many, or one more on the left; the users of the other side get the variant 0; all others keep theirs; no conditions. -/
namespace Go.Proofs.YtoegpalacppllaaGreat
open Go.RowKit Go.ChangeShapes Go.WideShapes Pl Tr Hn

theorem traceHalves_calls (H : Type) (enc : TypeId × Value → H) (W : World) (base : Nat) (args : Array Value) (ds : List (DataW H)) (ps : List MemPlace) (h : Opened enc Tryz.prog W Tryz.f7 base args ds ps) :
    Calls Tryz.prog 7 args W fun e w' => e = .returned (.bool true) ∧ Below W.heap.size W w' := by
  have r0 := h.args (ts := [69, 3]) (by kernel_rfl)
  generalize hl : args.toList = l0 at r0
  obtain ⟨_, l1, rfl, a0, r1⟩ := r0.cons
  obtain ⟨h, h_a, h_n, h_c, h_r, h_q, h_ss, rfl, h_rd, h_fit, h_len⟩ := a0.hunt tyHu69
  obtain ⟨_, l2, rfl, a1, r2⟩ := r1.cons
  obtain ⟨x, rfl, x_lo, x_hi⟩ := a1.int Tryz.underlying3
  obtain rfl := r2.nil
  rw [arr_of hl]
  exact g_TraceHalves h h_a h_n h_c h_r h_q h_ss x h_fit h_len W h_rd
set_option maxRecDepth 100000 in
theorem traceHalves_closed : joinedFacts Tryz.pinned.checked.prog 7 Tryz.f7 Rows.traceHalvesSpec Rows.traceHalvesRow = true := by kernel_rfl
set_option maxRecDepth 100000 in
theorem traceHalves_holds : Rows.TraceHalvesSaid :=
  OpenClaim.holds_of_wide 7 Tryz.f7 rfl rfl rfl rfl rfl rfl rfl ⟨rfl, rfl, rfl, rfl, rfl⟩ rfl rfl rfl rfl rfl (by kernel_rfl) Tryz.func7 traceHalves_closed
    (of_decide_eq_true (by kernel_rfl)) (by unfold Func.isWrapper; first | (rw [if_pos (by decide +kernel)]; kernel_rfl) | (rw [if_neg (by decide +kernel)]; exact ⟨rfl, rfl⟩))
    (fun os started H enc _ => law_lifted (C := Tryz.checked) (s := Rows.traceHalvesSpec) (conds := Rows.traceHalvesRow.domain) 4 (by kernel_rfl) (by kernel_rfl) Tryz.func7 (by kernel_rfl) (by kernel_rfl) rfl
      (fun H ds hd => match ds, hd with | [_, _], _ => rfl) (by kernel_rfl) Tryz.underlying4 traceHalves_calls os started H enc
      (ChangeSpec.witness6 (enc := enc) (C := Tryz.checked) false ⟨#[], #[.agg #[.int .i64 0, .slice none 0 0, .slice none 0 0, .slice none 0 0, .int .i64 0], .int .i64 0], []⟩ 8 (by kernel_rfl) (by kernel_rfl) (by kernel_rfl) (by kernel_rfl)))
#print axioms traceHalves_holds
end Go.Proofs.YtoegpalacppllaaGreat

