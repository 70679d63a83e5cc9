/- For every number of users up to 64, at most 64 pirates and every list of choices: a hunt in which each variant that is heard is one that a pirate gets who was not named names pirates alone, has at most as many pairs as there are other pirates, and has named all of them after at most Rounds rounds; no conditions. -/
import Derived.Test.YtoegpalacppllaaGreatPkB5
import Derived.Test.YtoegpalacppllaaGreatProg
import Derived.ChangeSlices
import Derived.ChangeMaps5
import Derived.Test.YtoegpalacppllaaGreatRows
/- Operations one by one, over frames that are written as lists. No function of the program is in sight here. -/
namespace Go.Proofs.YtoegpalacppllaaGreat
open Go.RowKit

section
variable {P : Program} {bs : List Value} {us : List (Nat × Value)} {ds : List Deferred} {o : Oper} {v : Value}

/-! ### addresses -/
/-! ### integers -/
/-! ### u64 -/
/-! ### u8 -/
/-! ### conversions -/
theorem r_conv_u8_i64 {s d : Nat} {p : Operand} {x : BitVec 8} {D : TypeDesc} (hs : P.underlying s = some D) (hd : P.underlying d = some (.int .i64)) (ho : o.op = .convert s d p) (hx : ev bs us p = .int .u8 (x.toNat : Int)) : Runs P bs us o (.int .i64 (x.toNat : Int)) :=
  run_conv hs hd hx ho (wrap64_nat _ (by have := x.isLt; omega))
end
end Go.Proofs.YtoegpalacppllaaGreat

/- How keys and pairs of words stand in memory. -/
namespace Go.Proofs.YtoegpalacppllaaGreat
open Pl

theorem bl_len (l : List (BitVec 8)) : (bl l).length = l.length := by simp [bl]
theorem bl_get {l : List (BitVec 8)} {j : Nat} {x : BitVec 8} (h : l[j]? = some x) : (bl l)[j]? = some (B8 x) := by simp [bl, h]
end Go.Proofs.YtoegpalacppllaaGreat

/- Plain laws of hunts: variants, and what is heard. No program is in sight here. -/
namespace Go.Proofs.YtoegpalacppllaaGreat.Hn

/-! ### variants -/
section
variable {h : Hu} (v : Valid h)
include v
end

/-! ### what is heard -/
theorem users_up {l : LI} {n : Int} (h : usersB l n = true) : Up l := by
  rw [Up, List.pairwise_iff_getElem]
  intro i j hi hj hij
  have := users_lt h i j hij hj
  simpa [at_, hi, hj] using this
end Go.Proofs.YtoegpalacppllaaGreat.Hn

/- Plain laws of hunts: a hunt after a variant is heard is valid. No program is in sight here. -/
namespace Go.Proofs.YtoegpalacppllaaGreat.Hn

theorem merged_perm {a b : LI} (hn : (a ++ b).Nodup) (hr : ∀ x ∈ a ++ b, 0 ≤ x ∧ x < 64) : (merged a b).Perm (a ++ b) := by
  refine (List.perm_ext_iff_of_nodup ?_ hn).2 fun x => ?_
  · exact List.nodup_iff_pairwise_ne.2 ((merged_up a b).imp fun h => by omega)
  · rw [mem_merged, List.mem_append]
    exact ⟨fun h => h.2, fun h => ⟨hr x (List.mem_append.2 h), h⟩⟩
theorem up_users {l : LI} {n : Int} (h : Up l) (hr : ∀ x ∈ l, 0 ≤ x ∧ x < n) : usersB l n = true := usersB_iff.2 fun i hi => by
  refine ⟨(hr _ (at_mem hi)).1, (hr _ (at_mem hi)).2, ?_⟩
  by_cases h0 : i = 0
  · exact .inl h0
  · refine .inr ?_
    have h1 : i - 1 < l.length := by omega
    have := List.pairwise_iff_getElem.1 h (i - 1) i h1 hi (by omega)
    simpa [at_, hi, h1] using this
theorem valid_of {h' h : Hu} (v : Valid h) (hu : h'.users = h.users) (hr : 0 ≤ h'.rounds ∧ h'.rounds ≤ 100000) (hp : h'.ps.length ≤ 128) (h1 : Up h'.rest) (h2 : Up h'.named) (h3 : ∀ l ∈ h'.ps, Up l ∧ l ≠ [])
    (hF : (h'.rest ++ h'.named ++ h'.ps.flatten).Perm (h.rest ++ h.named ++ h.ps.flatten)) : Valid h' := by
  have hmem : ∀ x, x ∈ h'.rest ++ h'.named ++ h'.ps.flatten → 0 ≤ x ∧ x < h'.users := fun x hx => by
    rw [hu]
    rcases List.mem_append.1 (hF.mem_iff.1 hx) with hx | hx
    · rcases List.mem_append.1 hx with hx | hx
      · exact users_mem v.rest hx
      · exact users_mem v.named hx
    · obtain ⟨l, hl, hx⟩ := List.mem_flatten.1 hx
      exact users_mem (v.ps l hl).1 hx
  refine ⟨by rw [hu]; exact v.u1, by rw [hu]; exact v.u2, hr.1, hr.2, hp, up_users h1 fun x hx => hmem x (by simp [hx]), up_users h2 fun x hx => hmem x (by simp [hx]), fun l hl => ⟨up_users (h3 l hl).1 fun x hx => hmem x ?_, (h3 l hl).2⟩, hF.nodup_iff.2 v.nodup, fun x h0 hx => ?_, ?_⟩
  · exact List.mem_append_right _ (List.mem_flatten.2 ⟨l, hl, hx⟩)
  · have hc := v.cover x h0 (by rw [← hu]; exact hx)
    have : x ∈ h.rest ++ h.named ++ h.ps.flatten := by
      rcases hc with hc | hc | ⟨l, hl, hc⟩
      · simp [hc]
      · simp [hc]
      · exact List.mem_append_right _ (List.mem_flatten.2 ⟨l, hl, hc⟩)
    have := hF.mem_iff.2 this
    rcases List.mem_append.1 this with hx | hx
    · rcases List.mem_append.1 hx with hx | hx
      · exact .inl hx
      · exact .inr (.inl hx)
    · obtain ⟨l, hl, hx⟩ := List.mem_flatten.1 hx
      exact .inr (.inr ⟨l, hl, hx⟩)
  · have e : ∀ k : Hu, sumL (groups k) = (k.rest ++ k.named ++ k.ps.flatten).length := fun k => by
      simp only [groups, sumL, List.length_append, flat_len]; omega
    rw [e h', hF.length_eq, ← e h, hu]; exact v.sum

theorem half_lt {l : LI} (h : 2 ≤ l.length) : 0 < halfN l ∧ halfN l < l.length := by unfold halfN; omega
theorem take_ne {l : LI} {n : Nat} (h : 0 < n) (hl : 0 < l.length) : l.take n ≠ [] := by
  intro e
  have := congrArg List.length e
  simp only [List.length_take, List.length_nil] at this; omega
theorem drop_ne {l : LI} {n : Nat} (h : n < l.length) : l.drop n ≠ [] := by
  intro e
  have := congrArg List.length e
  simp at this; omega

theorem Part.flat {ps : List LI} {i : Nat} (p : Part ps i) : ps.flatten = (p.A ++ p.l :: p.r :: p.B).flatten := congrArg List.flatten p.eq
/-- there is room for one pair more, if the rest has two users -/
theorem Valid.room {h : Hu} (v : Valid h) (hr : 2 ≤ h.rest.length) (he : h.ps.length % 2 = 0) : h.ps.length + 2 ≤ 128 := by
  have : ∀ ps : List LI, (∀ l ∈ ps, l ≠ []) → ps.length ≤ sumL ps := by
    intro ps
    induction ps with
    | nil => intro _; simp
    | cons l ps ih =>
      intro hl
      have h1 := ih fun x hx => hl x (by simp [hx])
      have h2 : 0 < l.length := List.length_pos_iff.2 (hl l (by simp))
      simp [sumL]; omega
  have h1 := this h.ps fun l hl => (v.ps l hl).2
  have h2 := v.sum
  have h3 := v.u2
  simp [groups, sumL] at h2
  omega

theorem Valid.heard0 {h : Hu} (v : Valid h) (he : h.ps.length % 2 = 0) (hr : h.rounds < 100000) (hn : h.rest ≠ []) : Valid (heard h 0) := by
  have hpos : 0 < h.rest.length := List.length_pos_iff.2 hn
  have hr0 := v.r1
  by_cases h1 : h.rest.length = 1
  · rw [heard_zero]
    simp only [h1, if_true]
    have hnd : (h.named ++ h.rest).Nodup := (List.perm_append_comm.nodup_iff).1 (List.nodup_append.1 v.nodup).1
    refine valid_of v rfl ⟨by simp only; omega, by simp only; omega⟩ v.p List.Pairwise.nil (merged_up _ _) (fun l hl => ⟨users_up (v.ps l hl).1, (v.ps l hl).2⟩) ?_
    simp only [List.nil_append]
    refine List.Perm.append_right _ ?_
    exact (merged_perm hnd fun x hx => v.range (by simp only [List.mem_append] at hx ⊢; exact .inl hx.symm)).trans List.perm_append_comm
  · rw [heard_zero]
    simp only [h1, if_false]
    have hb := half_lt (l := h.rest) (by omega)
    have hroom := v.room (by omega) he
    refine valid_of v rfl ⟨by simp only; omega, by simp only; omega⟩ (by simp; omega) List.Pairwise.nil (users_up v.named) (fun l hl => ?_) ?_
    · rcases List.mem_append.1 hl with hl | hl
      · exact ⟨users_up (v.ps l hl).1, (v.ps l hl).2⟩
      · simp only [List.mem_cons, List.not_mem_nil, or_false] at hl
        rcases hl with rfl | rfl
        · exact ⟨(users_up v.rest).take _, take_ne hb.1 hpos⟩
        · exact ⟨(users_up v.rest).drop _, drop_ne hb.2⟩
    · simp only [List.nil_append, List.flatten_append, List.flatten_cons, List.flatten_nil, List.append_nil, List.take_append_drop]
      rw [List.append_assoc h.rest]
      rw [← List.append_assoc h.named]
      exact List.perm_append_comm
theorem Valid.heardP {h : Hu} (v : Valid h) (hr : h.rounds < 100000) {x i : Nat} (hx : x ≠ 0) (hi : (x - 1) / 2 = i) (p : Part h.ps i) : Valid (heard h x) := by
  have hr0 := v.r1
  obtain ⟨s, hs⟩ : ∃ s, s = if x % 2 = 1 then p.l else p.r := ⟨_, rfl⟩
  obtain ⟨o, ho⟩ : ∃ o, o = if x % 2 = 1 then p.r else p.l := ⟨_, rfl⟩
  rw [heard_pair hx hi p, ← hs, ← ho]
  have hps : ∀ m ∈ h.ps, Up m ∧ m ≠ [] := fun m hm => ⟨users_up (v.ps m hm).1, (v.ps m hm).2⟩
  have hmem : ∀ m, m = p.l ∨ m = p.r ∨ m ∈ p.A ∨ m ∈ p.B → m ∈ h.ps := fun m hm => p.mem hm
  have hsm : s ∈ h.ps := hmem s (by rw [hs]; split <;> simp)
  have hom : o ∈ h.ps := hmem o (by rw [ho]; split <;> simp)
  have hlr : (p.l ++ p.r).Perm (s ++ o) := by
    rw [hs, ho]; split
    · exact List.Perm.refl _
    · exact List.perm_append_comm
  have hflat : h.ps.flatten.Perm (p.A.flatten ++ p.B.flatten ++ (s ++ o)) := by
    rw [p.flat]
    simp only [List.flatten_append, List.flatten_cons, List.append_assoc]
    refine List.Perm.append_left _ ?_
    rw [← List.append_assoc p.l]
    exact (List.perm_append_comm).trans (hlr.append_left _)
  have hall : (h.rest ++ h.named ++ h.ps.flatten).Perm ((h.rest ++ o) ++ (h.named ++ s) ++ (p.A.flatten ++ p.B.flatten)) := by
    refine (hflat.append_left _).trans ?_
    simp only [List.append_assoc]
    refine List.Perm.append_left _ ?_
    have e1 : (h.named ++ (p.A.flatten ++ (p.B.flatten ++ (s ++ o)))).Perm (h.named ++ ((s ++ o) ++ (p.A.flatten ++ p.B.flatten))) :=
      List.Perm.append_left _ (by rw [← List.append_assoc p.A.flatten]; exact List.perm_append_comm)
    refine e1.trans ?_
    have e2 : (h.named ++ ((s ++ o) ++ (p.A.flatten ++ p.B.flatten))).Perm ((o ++ (h.named ++ s)) ++ (p.A.flatten ++ p.B.flatten)) := by
      rw [← List.append_assoc]
      refine List.Perm.append_right _ ?_
      rw [← List.append_assoc]
      exact List.perm_append_comm
    refine e2.trans ?_
    simp [List.append_assoc]
  have hnd := hall.nodup_iff.1 v.nodup
  have hrg : ∀ y, y ∈ (h.rest ++ o) ++ (h.named ++ s) ++ (p.A.flatten ++ p.B.flatten) → 0 ≤ y ∧ y < 64 := fun y hy => v.range (hall.mem_iff.2 hy)
  have hro : (merged h.rest o).Perm (h.rest ++ o) := merged_perm (List.nodup_append.1 (List.nodup_append.1 hnd).1).1 fun y hy => hrg y (by simp only [List.mem_append] at hy ⊢; exact .inl (.inl hy))
  have hns : (merged h.named s).Perm (h.named ++ s) := merged_perm (List.nodup_append.1 (List.nodup_append.1 hnd).1).2.1 fun y hy => hrg y (by simp only [List.mem_append] at hy ⊢; exact .inl (.inr hy))
  have hl0 : 0 < s.length := List.length_pos_iff.2 (hps s hsm).2
  have hplen : h.ps.length = p.A.length + p.B.length + 2 := by rw [p.length, p.len]
  have hp128 := v.p
  by_cases h1 : s.length = 1
  · simp only [h1, if_true]
    refine valid_of v rfl ⟨by simp only; omega, by simp only; omega⟩ (by simp; omega) (merged_up _ _) (merged_up _ _) (fun m hm => ?_) ?_
    · refine hps m (hmem m ?_)
      rcases List.mem_append.1 hm with hm | hm
      · exact .inr (.inr (.inl hm))
      · exact .inr (.inr (.inr hm))
    · simp only [List.flatten_append]
      exact ((hro.append hns).append_right _).trans hall.symm
  · simp only [h1, if_false]
    have hb := half_lt (l := s) (by omega)
    refine valid_of v rfl ⟨by simp only; omega, by simp only; omega⟩ (by simp; omega) (merged_up _ _) (users_up v.named) (fun m hm => ?_) ?_
    · simp only [List.mem_append, List.mem_cons] at hm
      rcases hm with hm | rfl | rfl | hm
      · exact hps m (hmem m (.inr (.inr (.inl hm))))
      · exact ⟨(hps s hsm).1.take _, take_ne hb.1 hl0⟩
      · exact ⟨(hps s hsm).1.drop _, drop_ne hb.2⟩
      · exact hps m (hmem m (.inr (.inr (.inr hm))))
    · refine List.Perm.trans ?_ hall.symm
      have e : (p.A ++ s.take (halfN s) :: s.drop (halfN s) :: p.B).flatten = p.A.flatten ++ (s ++ p.B.flatten) := by
        simp only [List.flatten_append, List.flatten_cons]
        rw [← List.append_assoc (s.take _), List.take_append_drop]
      rw [e]
      refine ((hro.append_right _).append_right _).trans ?_
      simp only [List.append_assoc]
      refine List.Perm.append_left _ (List.Perm.append_left _ (List.Perm.append_left _ ?_))
      rw [← List.append_assoc, ← List.append_assoc]
      exact List.perm_append_comm.append_right _
end Go.Proofs.YtoegpalacppllaaGreat.Hn

/- Plain laws of hunts: who is named, and who gets which variant, after a variant is heard. No program is in sight here. -/
namespace Go.Proofs.YtoegpalacppllaaGreat.Hn

/-- the users who get a variant -/
def sideOf (h : Hu) (x : Nat) : LI := if x = 0 then h.rest else h.ps.getD (x - 1) []
theorem named_heard (h : Hu) (x : Nat) : (heard h x).named = if (sideOf h x).length = 1 then merged h.named (sideOf h x) else h.named := by
  unfold heard sideOf
  by_cases hx : x = 0
  · simp [hx]
  · simp [hx]
theorem users_heard (h : Hu) (x : Nat) : (heard h x).users = h.users := by
  unfold heard; split <;> rfl
theorem rounds_heard (h : Hu) (x : Nat) : (heard h x).rounds = h.rounds + 1 := by
  unfold heard; split <;> rfl

theorem side_mem {h : Hu} {x : Nat} (hx : x ≠ 0) (hl : x ≤ h.ps.length) : h.ps[x - 1]? = some (sideOf h x) := by
  have h1 : x - 1 < h.ps.length := by omega
  simp [sideOf, hx, h1]
section
variable {h : Hu} (v : Valid h)
include v
theorem Valid.var_side {x : Nat} (hl : x ≤ h.ps.length) {u : Int} (hu : u ∈ sideOf h x) : variantB h u = x := by
  by_cases hx : x = 0
  · subst hx
    have hu' : u ∈ h.rest := by simpa [sideOf] using hu
    rw [varF_no fun l hl hul => v.rest_side hl hul hu']
    have := v.rest_named hu'
    simp [this]
  · rw [v.varF_at (side_mem hx hl) hu]; omega
theorem Valid.side_range {x : Nat} (hl : x ≤ h.ps.length) {u : Int} (hu : u ∈ sideOf h x) : 0 ≤ u ∧ u < h.users := by
  by_cases hx : x = 0
  · subst hx
    exact users_mem v.rest (by simpa [sideOf] using hu)
  · exact v.user_side (List.mem_of_getElem? (side_mem hx hl)) hu
theorem Valid.side_of_var {x : Nat} (hl : x ≤ h.ps.length) {u : Int} (h0 : 0 ≤ u) (h1 : u < h.users) (he : variantB h u = x) : u ∈ sideOf h x := by
  by_cases hs : ∃ l ∈ h.ps, u ∈ l
  · obtain ⟨l, hm, hu⟩ := hs
    obtain ⟨i, hi⟩ := List.getElem?_of_mem hm
    rw [v.varF_at hi hu] at he
    have hx : x = i + 1 := by omega
    subst hx
    have := side_mem (x := i + 1) (by omega) hl
    simp only [Nat.add_sub_cancel] at this
    rw [hi] at this
    injection this with this
    rw [← this]; exact hu
  · have hno : ∀ l ∈ h.ps, u ∉ l := fun l hl hu => hs ⟨l, hl, hu⟩
    rw [varF_no hno] at he
    by_cases hn : u ∈ h.named
    · simp [hn] at he
    · simp [hn] at he
      obtain rfl : x = 0 := by omega
      rcases v.cover u h0 h1 with hr | hr | ⟨l, hl, hr⟩
      · simpa [sideOf] using hr
      · exact absurd hr hn
      · exact absurd hr (hno l hl)
theorem Valid.side_disj {x : Nat} (hl : x ≤ h.ps.length) : (h.named ++ sideOf h x).Nodup := by
  refine List.nodup_append.2 ⟨users_nodup v.named, ?_, fun a ha b hb e => ?_⟩
  · by_cases hx : x = 0
    · subst hx; simpa [sideOf] using users_nodup v.rest
    · exact users_nodup (v.ps _ (List.mem_of_getElem? (side_mem hx hl))).1
  · subst e
    by_cases hx : x = 0
    · subst hx; exact v.rest_named (by simpa [sideOf] using hb) ha
    · exact v.named_side (List.mem_of_getElem? (side_mem hx hl)) hb ha
/-- who is named -/
theorem Valid.whole {x : Nat} (hl : x ≤ h.ps.length) : (∀ u ∈ h.named, u ∈ (heard h x).named) ∧ ((heard h x).named.length = h.named.length ∨ (heard h x).named.length = h.named.length + 1) ∧
    ∀ u ∈ (heard h x).named, u ∉ h.named → 0 ≤ u ∧ u < h.users ∧ variantB h u = x := by
  rw [named_heard]
  have h64 := v.u2
  have hr : ∀ u ∈ h.named ++ sideOf h x, 0 ≤ u ∧ u < 64 := fun u hu => by
    rcases List.mem_append.1 hu with hu | hu
    · have := users_mem v.named hu; omega
    · have := v.side_range hl hu; omega
  by_cases h1 : (sideOf h x).length = 1
  · simp only [h1, if_true]
    refine ⟨fun u hu => mem_merged.2 ⟨hr u (by simp [hu]), .inl hu⟩, .inr ?_, fun u hu hn => ?_⟩
    · rw [(merged_perm (v.side_disj hl) hr).length_eq, List.length_append, h1]
    · rcases (mem_merged.1 hu).2 with hu | hu
      · exact absurd hu hn
      · exact ⟨(v.side_range hl hu).1, (v.side_range hl hu).2, v.var_side hl hu⟩
  · simp only [h1, if_false]
    exact ⟨fun u hu => hu, .inl trivial, fun u hu hn => absurd hu hn⟩
/-- the users who get a variant, in order -/
theorem Valid.side_filter {x : Nat} (hl : x ≤ h.ps.length) : (rangeI h.users.toNat).filter (fun u => decide (variantB h u = x)) = sideOf h x := by
  refine up_ext ?_ ?_ fun u => ?_
  · refine List.Pairwise.filter _ ?_
    rw [rangeI, List.pairwise_map]
    exact List.pairwise_lt_range.imp fun h => by omega
  · by_cases hx : x = 0
    · subst hx; simpa [sideOf] using users_up v.rest
    · exact users_up (v.ps _ (List.mem_of_getElem? (side_mem hx hl))).1
  · simp only [List.mem_filter, mem_rangeI, decide_eq_true_eq]
    constructor
    · rintro ⟨⟨h0, h1⟩, he⟩; exact v.side_of_var hl h0 (by omega) he
    · intro hu
      have := v.side_range hl hu
      exact ⟨⟨this.1, by omega⟩, v.var_side hl hu⟩
end

/-- where a user is, in a valid hunt, by his variant -/
theorem Valid.var_at {h : Hu} (v : Valid h) {j : Nat} {l : LI} {u : Int} (hj : h.ps[j]? = some l) (hu : u ∈ l) : variantB h u = (j : Int) + 1 := v.varF_at hj hu
theorem Valid.var_rest {h : Hu} (v : Valid h) {u : Int} (hu : u ∈ h.rest) : variantB h u = 0 := by
  have := v.var_side (x := 0) (Nat.zero_le _) (u := u) (by simpa [sideOf] using hu)
  simpa using this
theorem Valid.var_named {h : Hu} (v : Valid h) {u : Int} (hu : u ∈ h.named) : variantB h u = -1 := by
  rw [varF_no fun l hl hul => v.named_side hl hul hu]
  simp [hu]

/-- the first of the two variants that those get who got the variant that was heard -/
def newAt (h : Hu) (x : Nat) : Nat := if x = 0 then h.ps.length else 2 * ((x - 1) / 2)
/-- who gets which variant -/
structure Halves (h : Hu) (x : Nat) : Prop where
  left : ∀ i, i < halfN (sideOf h x) → variantB (heard h x) (at_ (sideOf h x) i) = (newAt h x : Int) + 1
  right : ∀ i, halfN (sideOf h x) ≤ i → i < (sideOf h x).length → variantB (heard h x) (at_ (sideOf h x) i) = (newAt h x : Int) + 2
  same : ∀ u, 0 ≤ u → u < h.users → variantB h u ≠ x → 0 < variantB h u → 0 < x → (variantB h u - 1) / 2 = ((x : Int) - 1) / 2 → variantB (heard h x) u = 0
  other : ∀ u, 0 ≤ u → u < h.users → variantB h u ≠ x → ¬ (0 < variantB h u ∧ 0 < x ∧ (variantB h u - 1) / 2 = ((x : Int) - 1) / 2) → variantB (heard h x) u = variantB h u
theorem mem_take_at {l : LI} {n i : Nat} (h : i < n) (hl : i < l.length) : at_ l i ∈ l.take n := at_take h hl
theorem mem_drop_at {l : LI} {n i : Nat} (h : n ≤ i) (hl : i < l.length) : at_ l i ∈ l.drop n := by
  refine List.mem_of_getElem? (i := i - n) ?_
  rw [List.getElem?_drop, show n + (i - n) = i by omega]
  exact at_get hl
theorem halves0 {h : Hu} (v : Valid h) (v' : Valid (heard h 0)) (h2 : 2 ≤ h.rest.length) : Halves h 0 := by
  have h1 : ¬ h.rest.length = 1 := by omega
  have es : sideOf h 0 = h.rest := rfl
  have en : newAt h 0 = h.ps.length := rfl
  have eps : (heard h 0).ps = h.ps ++ [h.rest.take (halfN h.rest), h.rest.drop (halfN h.rest)] := by rw [heard_zero]; simp [h1]
  have enm : (heard h 0).named = h.named := by rw [heard_zero]; simp [h1]
  have hb := half_lt h2
  refine ⟨fun i hi => ?_, fun i hi hl => ?_, fun u _ _ _ _ h0 => by omega, fun u u0 u1 hx _ => ?_⟩
  · rw [es] at hi ⊢; rw [en]
    exact v'.var_at (l := h.rest.take (halfN h.rest)) (by rw [eps, List.getElem?_append_right (Nat.le_refl _)]; simp) (mem_take_at hi (by omega))
  · rw [es] at hi hl ⊢; rw [en]
    have := v'.var_at (j := h.ps.length + 1) (l := h.rest.drop (halfN h.rest)) (by rw [eps, List.getElem?_append_right (by omega)]; simp) (mem_drop_at hi hl)
    rw [this]; omega
  · by_cases hs : ∃ l ∈ h.ps, u ∈ l
    · obtain ⟨l, hm, hu⟩ := hs
      obtain ⟨i, hi⟩ := List.getElem?_of_mem hm
      have hlt := (List.getElem?_eq_some_iff.1 hi).1
      rw [v.var_at hi hu, v'.var_at (j := i) (l := l) (by rw [eps, List.getElem?_append_left hlt]; exact hi) hu]
    · have hno : ∀ l ∈ h.ps, u ∉ l := fun l hl hu => hs ⟨l, hl, hu⟩
      rcases v.cover u u0 u1 with hr | hr | ⟨l, hl, hr⟩
      · exact absurd (v.var_rest hr) (by simpa using hx)
      · rw [v.var_named hr, v'.var_named (by rw [enm]; exact hr)]
      · exact absurd hr (hno l hl)
theorem halvesP {h : Hu} (v : Valid h) {x i : Nat} (v' : Valid (heard h x)) (hx : x ≠ 0) (hi : (x - 1) / 2 = i) (p : Part h.ps i) (h2 : 2 ≤ (sideOf h x).length) : Halves h x := by
  have hxl : x ≤ h.ps.length := by rw [p.length]; omega
  have hlr : h.ps[2 * i]? = some p.l ∧ h.ps[2 * i + 1]? = some p.r := ⟨p.g0, p.g1⟩
  have hs : sideOf h x = if x % 2 = 1 then p.l else p.r := by
    have := side_mem hx hxl
    by_cases ho : x % 2 = 1
    · rw [show x - 1 = 2 * i by omega, hlr.1] at this
      injection this with this
      rw [if_pos ho]; exact this.symm
    · rw [show x - 1 = 2 * i + 1 by omega, hlr.2] at this
      injection this with this
      rw [if_neg ho]; exact this.symm
  have eh := heard_pair hx hi p
  rw [← hs] at eh
  obtain ⟨s, es⟩ : ∃ s, s = sideOf h x := ⟨_, rfl⟩
  obtain ⟨o, eo⟩ : ∃ o, o = if x % 2 = 1 then p.r else p.l := ⟨_, rfl⟩
  rw [← es, ← eo] at eh
  have h1 : ¬ s.length = 1 := by rw [es]; omega
  have eps : (heard h x).ps = p.A ++ s.take (halfN s) :: s.drop (halfN s) :: p.B := by rw [eh]; simp [h1]
  have enm : (heard h x).named = h.named := by rw [eh]; simp [h1]
  have erest : (heard h x).rest = merged h.rest o := by rw [eh]
  have hb := half_lt (l := s) (by rw [es]; exact h2)
  have en : newAt h x = 2 * i := by rw [newAt, if_neg hx, hi]
  have g0 : (heard h x).ps[2 * i]? = some (s.take (halfN s)) := by rw [eps, List.getElem?_append_right (by rw [p.len]; omega), p.len]; simp
  have g1 : (heard h x).ps[2 * i + 1]? = some (s.drop (halfN s)) := by rw [eps, List.getElem?_append_right (by rw [p.len]; omega), p.len, show 2 * i + 1 - 2 * i = 1 by omega]; simp
  have gj : ∀ j, j ≠ 2 * i → j ≠ 2 * i + 1 → (heard h x).ps[j]? = h.ps[j]? := fun j hj1 hj2 => by
    rw [eps]
    refine Eq.trans ?_ (congrArg (fun q : List LI => q[j]?) p.eq).symm
    rcases Nat.lt_or_ge j (2 * i) with hlt | hge
    · rw [List.getElem?_append_left (by rw [p.len]; exact hlt), List.getElem?_append_left (by rw [p.len]; exact hlt)]
    · rw [List.getElem?_append_right (by rw [p.len]; exact hge), List.getElem?_append_right (by rw [p.len]; exact hge), p.len]
      obtain ⟨k, rfl⟩ : ∃ k, j = 2 * i + (k + 2) := ⟨j - 2 * i - 2, by omega⟩
      rw [show 2 * i + (k + 2) - 2 * i = k + 2 by omega]
      rfl
  refine ⟨fun q hq => ?_, fun q hq hl => ?_, fun u u0 u1 hxu h0 _ he => ?_, fun u u0 u1 hxu hne => ?_⟩
  · rw [← es] at hq ⊢; rw [en]
    exact v'.var_at g0 (mem_take_at hq (by omega))
  · rw [← es] at hq hl ⊢; rw [en]
    rw [v'.var_at g1 (mem_drop_at hq hl)]; omega
  · -- the other side
    have hu : u ∈ o := by
      by_cases hsd : ∃ l ∈ h.ps, u ∈ l
      · obtain ⟨l, hm, hu⟩ := hsd
        obtain ⟨j, hj⟩ := List.getElem?_of_mem hm
        rw [v.var_at hj hu] at he hxu
        rw [eo]
        by_cases ho : x % 2 = 1
        · have : j = 2 * i + 1 := by omega
          subst this
          rw [hlr.2] at hj; injection hj with hj
          rw [if_pos ho, hj]; exact hu
        · have : j = 2 * i := by omega
          subst this
          rw [hlr.1] at hj; injection hj with hj
          rw [if_neg ho, hj]; exact hu
      · have hno : ∀ l ∈ h.ps, u ∉ l := fun l hl hu => hsd ⟨l, hl, hu⟩
        rw [varF_no hno] at h0
        split at h0 <;> omega
    have h64 := v.u2
    exact v'.var_rest (by rw [erest]; exact mem_merged.2 ⟨⟨u0, by omega⟩, .inr hu⟩)
  · by_cases hsd : ∃ l ∈ h.ps, u ∈ l
    · obtain ⟨l, hm, hu⟩ := hsd
      obtain ⟨j, hj⟩ := List.getElem?_of_mem hm
      rw [v.var_at hj hu] at hne ⊢
      rw [v'.var_at (j := j) (l := l) (by rw [gj j (by omega) (by omega)]; exact hj) hu]
    · have hno : ∀ l ∈ h.ps, u ∉ l := fun l hl hu => hsd ⟨l, hl, hu⟩
      have h64 := v.u2
      rcases v.cover u u0 u1 with hr | hr | ⟨l, hl, hr⟩
      · rw [v.var_rest hr, v'.var_rest (by rw [erest]; exact mem_merged.2 ⟨⟨u0, by omega⟩, .inl hr⟩)]
      · rw [v.var_named hr, v'.var_named (by rw [enm]; exact hr)]
      · exact absurd hr (hno l hl)
end Go.Proofs.YtoegpalacppllaaGreat.Hn

/- Closed facts on types and functions of the program, written by a program. -/
namespace Go.Proofs.YtoegpalacppllaaGreat
open Pl
theorem en31 : Enters Tryz.prog 31 := enters_of Tryz.func31 (by kernel_rfl) rfl
theorem en42 : Enters Tryz.prog 42 := enters_of Tryz.func42 (by kernel_rfl) rfl
end Go.Proofs.YtoegpalacppllaaGreat

/- What a law's arguments are: opened by their types. -/
namespace Go.Proofs.YtoegpalacppllaaGreat
open Go.RowKit Go.ChangeShapes Go.WideShapes Pl

section
variable {P : Program} {W : World}

theorem arr_of {args : Array Value} {l : List Value} (h : args.toList = l) : args = l.toArray := by subst h; simp

end
end Go.Proofs.YtoegpalacppllaaGreat

/- Plain laws of subsets that are split, and of partitions. No program is in sight here. -/
namespace Go.Proofs.YtoegpalacppllaaGreat.Tr
open Hn

theorem merged_perm {a b : List Int} (hn : (a ++ b).Nodup) (hr : ∀ x ∈ a ++ b, 0 ≤ x ∧ x < 64) : (merged a b).Perm (a ++ b) := by
  rw [← merged_sort hn hr]; exact sortI_perm _
end Go.Proofs.YtoegpalacppllaaGreat.Tr

/- Plain laws of hunts that are heard, as the outright statements ask: who is named, who gets which variant. No program is in sight here. -/
namespace Go.Proofs.YtoegpalacppllaaGreat.Hn

theorem le_sumL : ∀ {gs : List LI} {l : LI}, l ∈ gs → l.length ≤ sumL gs
  | g :: gs, l, h => by
    rcases List.mem_cons.1 h with rfl | h
    · simp [sumL]
    · have := le_sumL h
      simp [sumL]; omega
theorem valid_small {h : Hu} (v : Valid h) : Small h := by
  have hs := v.sum
  have h2 := v.u2
  have hp := v.p
  exact ⟨fun l hl => by have := le_sumL hl; omega, by omega, by omega⟩
/-- a hunt that was heard -/
structure HearOk (h : Hu) (x : Int) : Prop where
  v : Valid h
  v' : Valid (hear h x).1
  x0 : 0 ≤ x
  xl : x.toNat ≤ h.ps.length
  eq : (hear h x).1 = heard h x.toNat
  r : h.rounds < 100000
theorem not_false {b : Bool} (h : ¬ b = false) : b = true := by
  cases b with
  | true => rfl
  | false => exact absurd rfl h
theorem hear_ok {h : Hu} {x : Int} (he : h.ps.length % 2 = 0) (h0 : (hear h x).2 = 0) : HearOk h x := by
  by_cases hv : validB h = false
  · rw [hear, if_pos hv] at h0; exact absurd h0 (by decide)
  · by_cases hx : x < 0 ∨ (h.ps.length : Int) < x ∨ (x = 0 ∧ h.rest = [])
    · rw [hear, if_neg hv, if_pos hx] at h0; exact absurd h0 (by decide)
    · by_cases hr : h.rounds = 100000
      · rw [hear, if_neg hv, if_neg hx, if_pos hr] at h0; exact absurd h0 (by decide)
      · have eq : (hear h x).1 = heard h x.toNat := by rw [hear, if_neg hv, if_neg hx, if_neg hr]
        have v : Valid h := (valid_iff h).1 (not_false hv)
        have hr2 := v.r2
        have hx0 : 0 ≤ x := by omega
        have hxl : x.toNat ≤ h.ps.length := by omega
        refine ⟨v, ?_, hx0, hxl, eq, by omega⟩
        rw [eq]
        by_cases hn : x.toNat = 0
        · rw [hn]
          exact v.heard0 he (by omega) fun e => hx (.inr (.inr ⟨by omega, e⟩))
        · have hp : 2 * ((x.toNat - 1) / 2) + 1 < h.ps.length := by omega
          exact v.heardP (by omega) hn rfl (part_of hp)
theorem at_vars {h : Hu} {u : Nat} (hu : (u : Int) < h.users) : at_ (variants h) u = variantB h u := by
  have hl : u < h.users.toNat := by omega
  simp [at_, variants, rangeI, List.getD_eq_getElem?_getD, hl]
section
variable {h : Hu} {x : Int} (k : HearOk h x)
include k
theorem HearOk.chk : chkH (hear h x).1 = 0 := chkH_yes ((valid_iff _).2 k.v')
theorem HearOk.users : (hear h x).1.users = h.users := by rw [k.eq, users_heard]
theorem HearOk.rounds : (hear h x).1.rounds = h.rounds + 1 := by rw [k.eq, rounds_heard]
theorem HearOk.vars : varsR h = variants h := varsR_yes ((valid_iff _).2 k.v)
theorem HearOk.vars' : varsR (hear h x).1 = variants (hear h x).1 := varsR_yes ((valid_iff _).2 k.v')
theorem HearOk.len : (varsR h).length = h.users.toNat := by rw [k.vars, vars_len]
theorem HearOk.len' : (varsR (hear h x).1).length = h.users.toNat := by rw [k.vars', vars_len, k.users]
theorem HearOk.more : (hear h x).1.named.length = h.named.length ∨ (hear h x).1.named.length = h.named.length + 1 := by
  have := (k.v.whole k.xl).2.1
  rwa [← k.eq] at this
theorem HearOk.halves (he : h.ps.length % 2 = 0) (h2 : 2 ≤ (sideOf h x.toNat).length) : Halves h x.toNat := by
  have v' := k.v'
  rw [k.eq] at v'
  have hxl := k.xl
  by_cases hn : x.toNat = 0
  · rw [hn] at v' h2 ⊢
    exact halves0 k.v v' (by simpa [sideOf] using h2)
  · exact halvesP k.v v' hn rfl (part_of (by omega)) h2
end
/-- what those get afterwards who got a variant -/
def ownN (l m : LI) (x : Int) : Nat → LI
  | 0 => []
  | u + 1 => if at_ l u = x then ownN l m x u ++ [at_ m u] else ownN l m x u
theorem ownN_yes {l m : LI} {x : Int} {u : Nat} (h : at_ l u = x) : ownN l m x (u + 1) = ownN l m x u ++ [at_ m u] := if_pos h
theorem ownN_no {l m : LI} {x : Int} {u : Nat} (h : ¬ at_ l u = x) : ownN l m x (u + 1) = ownN l m x u := if_neg h
theorem ownN_eq {l m : LI} {x : Int} {f g : Int → Int} : ∀ {n : Nat}, (∀ u : Nat, u < n → at_ l u = f u ∧ at_ m u = g u) → ownN l m x n = ((rangeI n).filter fun u => decide (f u = x)).map g
  | 0, _ => rfl
  | n + 1, h => by
    have ih := ownN_eq (x := x) (n := n) fun u hu => h u (by omega)
    obtain ⟨h1, h2⟩ := h n (by omega)
    rw [rangeI_succ, List.filter_append, List.map_append, ← ih]
    by_cases hx : at_ l n = x
    · rw [ownN_yes hx, List.filter_cons_of_pos (by rw [← h1, hx]; exact decide_eq_true rfl), h2]; rfl
    · rw [ownN_no hx, List.filter_cons_of_neg (by rw [← h1]; simpa using hx)]; simp
section
variable {h : Hu} {x : Int} (k : HearOk h x)
include k
theorem HearOk.own : ownN (varsR h) (varsR (hear h x).1) x (varsR h).length = (sideOf h x.toNat).map (variantB (hear h x).1) := by
  have hx0 := k.x0
  have hu2 := k.v.u1
  rw [k.len, ownN_eq (f := variantB h) (g := variantB (hear h x).1) fun u hu => ⟨by rw [k.vars, at_vars (by omega)], by rw [k.vars', at_vars (by rw [k.users]; omega)]⟩, ← k.v.side_filter k.xl, Int.toNat_of_nonneg hx0]
/-- of the others -/
theorem HearOk.same (he : h.ps.length % 2 = 0) (h2 : 2 ≤ (ownN (varsR h) (varsR (hear h x).1) x (varsR h).length).length) {u : Nat} (hu : u < (varsR h).length) (hn : at_ (varsR h) u ≠ x) (h0 : 0 < at_ (varsR h) u) (hx : 0 < x) (hs : (at_ (varsR h) u - 1) / 2 = (x - 1) / 2) : at_ (varsR (hear h x).1) u = 0 := by
  have hx0 := k.x0
  have hu1 := k.v.u1
  rw [k.own, List.length_map] at h2
  have hv := k.halves he h2
  rw [k.len] at hu
  rw [k.vars, at_vars (by omega)] at hn h0 hs
  rw [k.vars', at_vars (by rw [k.users]; omega), k.eq]
  have e : ((x.toNat : Nat) : Int) = x := Int.toNat_of_nonneg hx0
  exact hv.same u (by omega) (by omega) (by rw [e]; exact hn) h0 (by omega) (by rw [e]; exact hs)
theorem HearOk.other (he : h.ps.length % 2 = 0) (h2 : 2 ≤ (ownN (varsR h) (varsR (hear h x).1) x (varsR h).length).length) {u : Nat} (hu : u < (varsR h).length) (hn : at_ (varsR h) u ≠ x) (hs : ¬ (0 < at_ (varsR h) u ∧ 0 < x ∧ (at_ (varsR h) u - 1) / 2 = (x - 1) / 2)) : at_ (varsR (hear h x).1) u = at_ (varsR h) u := by
  have hx0 := k.x0
  have hu1 := k.v.u1
  rw [k.own, List.length_map] at h2
  have hv := k.halves he h2
  rw [k.len] at hu
  rw [k.vars, at_vars (by omega)] at hn hs ⊢
  rw [k.vars', at_vars (by rw [k.users]; omega), k.eq]
  have e : ((x.toNat : Nat) : Int) = x := Int.toNat_of_nonneg hx0
  exact hv.other u (by omega) (by omega) (by rw [e]; exact hn) (by rw [e]; rintro ⟨a, b, c⟩; exact hs ⟨a, by omega, c⟩)
end
end Go.Proofs.YtoegpalacppllaaGreat.Hn

/- Dynamic tracing: who is named is a pirate, pairs are few, and all are named in time. No program is in sight here. -/
namespace Go.Proofs.YtoegpalacppllaaGreat.Hn

theorem clog_mono {a b : Int} (h : a ≤ b) : Tr.clog a ≤ Tr.clog b := by
  unfold Tr.clog
  (repeat' split) <;> omega
theorem clog_half {a s : Int} (h : 2 * a ≤ s + 1) (h2 : 2 ≤ s) (h64 : s ≤ 64) : Tr.clog a + 1 ≤ Tr.clog s := by
  unfold Tr.clog
  (repeat' split) <;> omega
theorem clog_pos {s : Int} (h : 2 ≤ s) : 1 ≤ Tr.clog s := by
  unfold Tr.clog
  (repeat' split) <;> omega
/-- how often pairs can be halved still -/
def phi : List LI → Nat
  | a :: b :: t => Tr.clog ((a.length + b.length : Nat) : Int) + phi t
  | _ => 0
theorem phi_append : ∀ {A : List LI} (B : List LI), A.length % 2 = 0 → phi (A ++ B) = phi A + phi B
  | [], B, _ => by simp [phi]
  | [_], B, h => by simp at h
  | a :: b :: t, B, h => by
    have := phi_append (A := t) B (by simp only [List.length_cons] at h; omega)
    simp only [List.cons_append, phi, this]; omega
theorem phi_ge : ∀ {ps : List LI}, (∀ l ∈ ps, l ≠ []) → ps.length / 2 ≤ phi ps
  | [], _ => by simp
  | [_], _ => by simp
  | a :: b :: t, h => by
    have ih := phi_ge (ps := t) fun l hl => h l (by simp [hl])
    have ha := List.length_pos_iff.2 (h a (by simp))
    have hb := List.length_pos_iff.2 (h b (by simp))
    have := clog_pos (s := ((a.length + b.length : Nat) : Int)) (by omega)
    simp only [List.length_cons, phi]; omega
/-- the sides of each pair are as long, and a pirate is in it -/
def Fine (bad : LI) : List LI → Prop
  | a :: b :: t => (2 * a.length ≤ a.length + b.length + 1 ∧ 2 * b.length ≤ a.length + b.length + 1) ∧ (∃ u ∈ bad, u ∈ a ∨ u ∈ b) ∧ Fine bad t
  | _ => True
theorem fine_append {bad : LI} : ∀ {A : List LI} (B : List LI), A.length % 2 = 0 → (Fine bad (A ++ B) ↔ Fine bad A ∧ Fine bad B)
  | [], B, _ => by simp [Fine]
  | [_], B, h => by simp at h
  | a :: b :: t, B, h => by
    have := fine_append (bad := bad) (A := t) B (by simp only [List.length_cons] at h; omega)
    simp only [List.cons_append, Fine, this]
    constructor
    · rintro ⟨h1, h2, h3, h4⟩; exact ⟨⟨h1, h2, h3⟩, h4⟩
    · rintro ⟨⟨h1, h2, h3⟩, h4⟩; exact ⟨h1, h2, h3, h4⟩
theorem countP_two {p q r : Int → Bool} : ∀ {l : LI}, (∀ u ∈ l, p u = true → r u = true) → (∀ u ∈ l, q u = true → r u = true) → (∀ u ∈ l, ¬ (p u = true ∧ q u = true)) → l.countP p + l.countP q ≤ l.countP r
  | [], _, _, _ => by simp
  | x :: l, hp, hq, hd => by
    have ih := countP_two (p := p) (q := q) (r := r) (l := l) (fun u hu => hp u (List.mem_cons_of_mem _ hu)) (fun u hu => hq u (List.mem_cons_of_mem _ hu)) (fun u hu => hd u (List.mem_cons_of_mem _ hu))
    have a := hp x (by simp)
    have b := hq x (by simp)
    have c := hd x (by simp)
    rw [List.countP_cons, List.countP_cons, List.countP_cons]
    cases h1 : p x <;> cases h2 : q x <;> cases h3 : r x <;> simp only [h1, h2, h3, if_true, if_false, Bool.false_eq_true] at a b c ⊢ <;> first | omega | exact (a trivial).elim | exact (b trivial).elim | exact (c ⟨trivial, trivial⟩).elim
theorem fine_count {bad : LI} : ∀ {ps : List LI}, ps.flatten.Nodup → Fine bad ps → ps.length / 2 ≤ bad.countP fun u => decide (u ∈ ps.flatten)
  | [], _, _ => by simp
  | [_], _, _ => by simp
  | a :: b :: t, hn, hf => by
    obtain ⟨-, ⟨u, hu, hab⟩, ht⟩ := hf
    have e : (a :: b :: t).flatten = (a ++ b) ++ t.flatten := by simp
    rw [e] at hn ⊢
    obtain ⟨-, hn2, hn3⟩ := List.nodup_append.1 hn
    have ih := fine_count (bad := bad) (ps := t) hn2 ht
    have h1 : 1 ≤ bad.countP (fun u => decide (u ∈ a ++ b)) := List.countP_pos_iff.2 ⟨u, hu, by simpa using hab⟩
    have := countP_two (p := fun u => decide (u ∈ a ++ b)) (q := fun u => decide (u ∈ t.flatten)) (r := fun u => decide (u ∈ (a ++ b) ++ t.flatten)) (l := bad) (fun u _ h => by
      have := of_decide_eq_true h
      exact decide_eq_true (List.mem_append_left _ this)) (fun u _ h => by
      have := of_decide_eq_true h
      exact decide_eq_true (List.mem_append_right _ this)) (fun u _ h => hn3 u (of_decide_eq_true h.1) u (of_decide_eq_true h.2) rfl)
    simp only [List.length_cons]; omega
theorem filter_two (p : Int → Bool) : ∀ l : LI, (l.filter p).length + l.countP (fun u => !p u) = l.length
  | [] => rfl
  | x :: l => by
    have := filter_two p l
    rw [List.countP_cons]
    cases h : p x
    · rw [List.filter_cons_of_neg (by rw [h]; decide)]; simp; omega
    · rw [List.filter_cons_of_pos h]; simp; omega
/-- what holds at each round -/
structure Inv (n : Int) (bad : LI) (h : Hu) (k : Nat) : Prop where
  v : Valid h
  users : h.users = n
  even : h.ps.length % 2 = 0
  fine : Fine bad h.ps
  named : ∀ u ∈ h.named, u ∈ bad
  rounds : h.rounds = k
  time : k + phi h.ps ≤ (h.named.length + h.ps.length / 2) * (1 + Tr.clog n)
theorem new_valid {n : Int} (h1 : 1 ≤ n) (h2 : n ≤ 64) : Valid (newH n) := by
  have e : newH n = ⟨n, [], rangeI n.toNat, [], 0⟩ := if_pos ⟨h1, h2⟩
  rw [e]
  refine ⟨h1, h2, by simp, by simp, by simp, ?_, ?_, by simp, ?_, ?_, ?_⟩
  · refine up_users ?_ fun x hx => ?_
    · simp only [Up, rangeI, List.pairwise_map]
      exact List.pairwise_lt_range.imp fun h => by omega
    · have := mem_rangeI.1 hx
      simp only; omega
  · exact up_users List.Pairwise.nil fun x hx => by cases hx
  · simpa using nodup_rangeI n.toNat
  · intro x h0 h1
    exact .inl (mem_rangeI.2 ⟨h0, by simp only at h1; omega⟩)
  · simp [groups, sumL, len_rangeI]; omega
theorem Inv.first {n : Int} {bad : LI} (h1 : 1 ≤ n) (h2 : n ≤ 64) : Inv n bad (newH n) 0 := by
  have e : newH n = ⟨n, [], rangeI n.toNat, [], 0⟩ := if_pos ⟨h1, h2⟩
  refine ⟨new_valid h1 h2, ?_, ?_, ?_, ?_, ?_, ?_⟩ <;> rw [e]
  · rfl
  · trivial
  · intro u hu; cases hu
  · rfl
  · exact Nat.zero_le _
theorem len_rest {h : Hu} (v : Valid h) : (h.rest.length : Int) ≤ h.users := by
  have := v.sum
  have := le_sumL (gs := groups h) (l := h.rest) (by simp [groups])
  omega
theorem named_len {h : Hu} (v : Valid h) {x : Nat} (hl : x ≤ h.ps.length) : (heard h x).named.length = h.named.length + (if (sideOf h x).length = 1 then 1 else 0) := by
  rw [named_heard]
  have h64 := v.u2
  have hr : ∀ u ∈ h.named ++ sideOf h x, 0 ≤ u ∧ u < 64 := fun u hu => by
    rcases List.mem_append.1 hu with hu | hu
    · have := users_mem v.named hu; omega
    · have := v.side_range hl hu; omega
  by_cases h1 : (sideOf h x).length = 1
  · simp only [h1, if_true]
    rw [(merged_perm (v.side_disj hl) hr).length_eq, List.length_append, h1]
  · simp only [h1, if_false]; rfl
theorem named_bad {h : Hu} {x : Nat} {bad : LI} {u : Int} (hb : u ∈ bad) (hn : ∀ w ∈ h.named, w ∈ bad) (hu : u ∈ sideOf h x) : ∀ w ∈ (heard h x).named, w ∈ bad := fun w hw => by
  rw [named_heard] at hw
  by_cases h1 : (sideOf h x).length = 1
  · simp only [h1, if_true] at hw
    rcases (mem_merged.1 hw).2 with h | h
    · exact hn w h
    · obtain ⟨z, hz⟩ := List.length_eq_one_iff.1 h1
      rw [hz, List.mem_singleton] at h hu
      rw [h, ← hu]; exact hb
  · simp only [h1, if_false] at hw; exact hn w hw
theorem half_len {l : LI} : (l.take (halfN l)).length + (l.drop (halfN l)).length = l.length ∧ 2 * (l.take (halfN l)).length ≤ l.length + 1 ∧ 2 * (l.drop (halfN l)).length ≤ l.length + 1 := by
  rw [List.length_take, List.length_drop]
  unfold halfN; omega
theorem half_mem {l : LI} {u : Int} (hu : u ∈ l) : u ∈ l.take (halfN l) ∨ u ∈ l.drop (halfN l) := List.mem_append.1 (by rw [List.take_append_drop]; exact hu)
/-- a round: a variant that a pirate gets who is not named -/
theorem Inv.step {n : Int} {bad : LI} {h : Hu} {k : Nat} (i : Inv n bad h k) {u : Int} (hu : u ∈ bad) (h0 : 0 ≤ u) (hun : u < n) (hn : u ∉ h.named) (hk : k < 100000) :
    (hear h (variantB h u)).2 = 0 ∧ Inv n bad (hear h (variantB h u)).1 (k + 1) := by
  have v := i.v
  have hus := i.users
  have hr := i.rounds
  have h64 := v.u2
  have hlr := len_rest v
  have htime := i.time
  obtain ⟨T, hT⟩ : ∃ T, T = 1 + Tr.clog n := ⟨_, rfl⟩
  rw [← hT] at htime
  rcases v.cover u h0 (by omega) with hc | hc | ⟨l, hl, hc⟩
  · -- of the rest
    have hx : variantB h u = 0 := v.var_rest hc
    rw [hx]
    have he : (hear h 0).2 = 0 := by
      rw [hear, if_neg (by rw [(valid_iff h).2 v]; decide), if_neg (by
        rintro (h1 | h1 | h1)
        · omega
        · omega
        · rw [h1.2] at hc; cases hc), if_neg (by omega)]
    have ok := hear_ok i.even he
    have eq : (hear h 0).1 = heard h 0 := ok.eq
    refine ⟨he, ok.v', ok.users.trans hus, ?_, ?_, ?_, by rw [ok.rounds, hr]; rfl, ?_⟩
    · rw [eq, heard_zero]
      have := i.even
      simp only; split
      · exact this
      · rw [List.length_append]; simp only [List.length_cons, List.length_nil]; omega
    · rw [eq, heard_zero]
      simp only; split
      · exact i.fine
      · refine (fine_append _ i.even).2 ⟨i.fine, ?_⟩
        obtain ⟨a, b, c⟩ := half_len (l := h.rest)
        exact ⟨⟨by omega, by omega⟩, ⟨u, hu, half_mem hc⟩, trivial⟩
    · rw [eq]; exact named_bad hu i.named (by simpa [sideOf] using hc)
    · have hnl := named_len v (x := 0) (Nat.zero_le _)
      have hs0 : sideOf h 0 = h.rest := if_pos rfl
      rw [eq, hnl, hs0, heard_zero, ← hT]
      by_cases h1 : h.rest.length = 1
      · simp only [h1, if_true]
        rw [show h.named.length + 1 + h.ps.length / 2 = (h.named.length + h.ps.length / 2) + 1 by omega, Nat.succ_mul]; omega
      · simp only [h1, if_false]
        rw [phi_append _ i.even, List.length_append]
        obtain ⟨a, -, -⟩ := half_len (l := h.rest)
        have hcl := clog_mono (a := (h.rest.length : Int)) (b := n) (by omega)
        simp only [phi, List.length_cons, List.length_nil, a]
        rw [show h.named.length + 0 + (h.ps.length + (0 + 1 + 1)) / 2 = (h.named.length + h.ps.length / 2) + 1 by omega, Nat.succ_mul]; omega
  · exact absurd hc hn
  · obtain ⟨j, hj, hjl⟩ := List.getElem_of_mem hl
    have hjg : h.ps[j]? = some l := by rw [List.getElem?_eq_getElem hj, hjl]
    have hx : variantB h u = ((j + 1 : Nat) : Int) := by rw [v.var_at hjg hc]; omega
    have hev := i.even
    rw [hx]
    have he : (hear h ((j + 1 : Nat) : Int)).2 = 0 := by
      rw [hear, if_neg (by rw [(valid_iff h).2 v]; decide), if_neg (by
        rintro (h1 | h1 | h1) <;> omega), if_neg (by omega)]
    have ok := hear_ok i.even he
    have eq : (hear h ((j + 1 : Nat) : Int)).1 = heard h (j + 1) := ok.eq
    obtain ⟨p⟩ : Nonempty (Part h.ps (j / 2)) := ⟨part_of (by omega)⟩
    have hpe := p.eq
    have hpl := p.length
    have hpA := p.len
    obtain ⟨s, hs⟩ : ∃ s, s = if (j + 1) % 2 = 1 then p.l else p.r := ⟨_, rfl⟩
    have hsl : s = l := by
      have g0 := p.g0
      have g1 := p.g1
      rw [hs]
      by_cases ho : (j + 1) % 2 = 1
      · rw [if_pos ho]
        rw [show 2 * (j / 2) = j by omega, hjg] at g0
        exact (Option.some.inj g0).symm
      · rw [if_neg ho]
        rw [show 2 * (j / 2) + 1 = j by omega, hjg] at g1
        exact (Option.some.inj g1).symm
    have hso : sideOf h (j + 1) = s := by
      rw [sideOf, if_neg (by omega), hsl, Nat.add_sub_cancel, List.getD_eq_getElem?_getD, hjg]; rfl
    have hhp := heard_pair (h := h) (x := j + 1) (i := j / 2) (by omega) (by omega) p
    rw [← hs] at hhp
    have hll := v.ps p.l (p.mem (.inl rfl))
    have hrr := v.ps p.r (p.mem (.inr (.inl rfl)))
    have hl1 := List.length_pos_iff.2 hll.2
    have hr1 := List.length_pos_iff.2 hrr.2
    have hA : p.A.length % 2 = 0 := by omega
    have hf : Fine bad (p.A ++ p.l :: p.r :: p.B) := hpe ▸ i.fine
    obtain ⟨hfA, ⟨hb1, hb2⟩, -, hfB⟩ := (fine_append _ hA).1 hf
    have hph : phi h.ps = phi p.A + (Tr.clog ((p.l.length + p.r.length : Nat) : Int) + phi p.B) := (congrArg phi hpe).trans (phi_append _ hA)
    have hsum : p.l.length + p.r.length ≤ 64 := by
      have h1 := v.sum
      have h2 : sumL h.ps = sumL p.A + (p.l.length + (p.r.length + sumL p.B)) := (congrArg sumL hpe).trans (sumL_append _ _)
      simp only [groups, sumL] at h1
      omega
    have hsh : 2 * s.length ≤ p.l.length + p.r.length + 1 := by
      rw [hs]; split
      · exact hb1
      · exact hb2
    have hus' : u ∈ s := by rw [hsl]; exact hc
    refine ⟨he, ok.v', ok.users.trans hus, ?_, ?_, ?_, by rw [ok.rounds, hr]; rfl, ?_⟩
    · rw [eq, hhp]
      simp only; split
      · rw [List.length_append]; omega
      · simp only [List.length_append, List.length_cons]; omega
    · rw [eq, hhp]
      simp only; split
      · exact (fine_append _ hA).2 ⟨hfA, hfB⟩
      · obtain ⟨a, b, c⟩ := half_len (l := s)
        exact (fine_append _ hA).2 ⟨hfA, ⟨by omega, by omega⟩, ⟨u, hu, half_mem hus'⟩, hfB⟩
    · rw [eq]; exact named_bad hu i.named (by rw [hso]; exact hus')
    · have hnl := named_len v (x := j + 1) (by omega)
      rw [eq, hnl, hso, hhp, ← hT]
      by_cases h1 : s.length = 1
      · have hcp := clog_pos (s := ((p.l.length + p.r.length : Nat) : Int)) (by omega)
        simp only [h1, if_true]
        rw [phi_append _ hA, List.length_append, show h.named.length + 1 + (p.A.length + p.B.length) / 2 = h.named.length + h.ps.length / 2 by omega]; omega
      · obtain ⟨a, -, -⟩ := half_len (l := s)
        have hch := clog_half (a := (s.length : Int)) (s := ((p.l.length + p.r.length : Nat) : Int)) (by omega) (by omega) (by omega)
        simp only [h1, if_false]
        rw [phi_append _ hA]
        simp only [phi, List.length_append, List.length_cons, a]
        rw [show h.named.length + 0 + (p.A.length + (p.B.length + 1 + 1)) / 2 = h.named.length + h.ps.length / 2 by omega]; omega
/-- who is open: not named yet -/
theorem open_iff {h : Hu} (v : Valid h) {u : Int} (h0 : 0 ≤ u) (h1 : u < h.users) : 0 ≤ variantB h u ↔ u ∉ h.named := by
  rcases v.cover u h0 h1 with hc | hc | ⟨l, hl, hc⟩
  · rw [v.var_rest hc]
    exact ⟨fun _ => v.rest_named hc, fun _ => Int.le_refl _⟩
  · rw [v.var_named hc]
    exact ⟨fun h => absurd h (by decide), fun h => absurd hc h⟩
  · obtain ⟨j, hj, hjl⟩ := List.getElem_of_mem hl
    rw [v.var_at (j := j) (by rw [List.getElem?_eq_getElem hj, hjl]) hc]
    exact ⟨fun _ => v.named_side hl hc, fun _ => by omega⟩
/-- the variants of the pirates who are not named -/
def openV (h : Hu) (bad : LI) : LI := (bad.filter fun u => decide (0 ≤ variantB h u)).map (variantB h)
section
variable {n : Int} {bad : LI} {h : Hu} {k : Nat} (i : Inv n bad h k) (hb : Up bad) (hr : ∀ u ∈ bad, 0 ≤ u ∧ u < n)
include i hr
theorem Inv.open_filter : bad.filter (fun u => decide (0 ≤ variantB h u)) = bad.filter (fun u => !decide (u ∈ h.named)) := List.filter_congr fun u hu => by
  have h2 := hr u hu
  have := open_iff i.v (u := u) h2.1 (by rw [i.users]; exact h2.2)
  rw [decide_eq_decide.2 this, decide_not]
omit hr
include hb
theorem Inv.named_eq : h.named = bad.filter fun u => decide (u ∈ h.named) := by
  refine up_ext (users_up i.v.named) (hb.filter _) fun x => ?_
  rw [List.mem_filter, decide_eq_true_eq]
  exact ⟨fun hx => ⟨i.named x hx, hx⟩, fun hx => hx.2⟩
include hr
theorem Inv.sum : h.named.length + (openV h bad).length = bad.length := by
  rw [openV, List.length_map, i.open_filter hr]
  have h1 := filter_two (fun u => decide (u ∈ h.named)) bad
  have h2 := congrArg List.length (i.named_eq hb)
  rw [List.countP_eq_length_filter] at h1
  omega
omit hb in
theorem Inv.pairs : h.ps.length / 2 ≤ (openV h bad).length := by
  rw [openV, List.length_map, i.open_filter hr]
  have hn := i.v.nodup
  obtain ⟨-, hn2, hn3⟩ := List.nodup_append.1 hn
  have h1 := fine_count hn2 i.fine
  have h2 := countP_two (p := fun u => decide (u ∈ h.ps.flatten)) (q := fun _ => false) (r := fun u => !decide (u ∈ h.named)) (l := bad) (fun u _ hu => by
    have hu := of_decide_eq_true hu
    rw [Bool.not_eq_true', decide_eq_false_iff_not]
    exact fun hm => hn3 u (List.mem_append_right _ hm) u hu rfl) (fun u _ hu => by cases hu) (fun u _ hu => by cases hu.2)
  rw [← List.countP_eq_length_filter]
  omega
theorem Inv.before (ho : openV h bad ≠ []) : k < bad.length * (1 + Tr.clog n) := by
  have h1 := i.sum hb hr
  have h2 := i.pairs hr
  have h3 := phi_ge (ps := h.ps) fun l hl => (i.v.ps l hl).2
  have h4 := i.time
  have h5 := List.length_pos_iff.2 ho
  obtain ⟨T, hT⟩ : ∃ T, T = 1 + Tr.clog n := ⟨_, rfl⟩
  rw [← hT] at h4 ⊢
  by_cases hp : h.ps.length / 2 = 0
  · rw [hp, Nat.add_zero] at h4
    have := Nat.mul_le_mul_right T (show h.named.length + 1 ≤ bad.length by omega)
    rw [Nat.succ_mul] at this
    omega
  · have := Nat.mul_le_mul_right T (show h.named.length + h.ps.length / 2 ≤ bad.length by omega)
    omega
theorem Inv.last (ho : openV h bad = []) : h.named = bad := by
  refine (i.named_eq hb).trans (List.filter_eq_self.2 fun u hu => ?_)
  apply Classical.byContradiction
  intro hc
  have hm : u ∈ bad.filter (fun u => decide (0 ≤ variantB h u)) := by
    rw [i.open_filter hr, List.mem_filter]
    exact ⟨hu, by simpa using hc⟩
  have := List.mem_map_of_mem (f := variantB h) hm
  rw [openV] at ho
  rw [ho] at this; cases this
omit hb in
theorem Inv.next (hk : k < 100000) {j : Nat} (hj : j < (openV h bad).length) : (hear h (at_ (openV h bad) j)).2 = 0 ∧ Inv n bad (hear h (at_ (openV h bad) j)).1 (k + 1) := by
  obtain ⟨u, hu, he⟩ := List.mem_map.1 (at_mem hj)
  have he2 : at_ (openV h bad) j = variantB h u := he.symm
  rw [he2]
  obtain ⟨hu1, hu2⟩ := List.mem_filter.1 hu
  have h2 := hr u hu1
  exact i.step hu1 h2.1 h2.2 ((open_iff i.v h2.1 (by rw [i.users]; exact h2.2)).1 (of_decide_eq_true hu2)) hk
end
end Go.Proofs.YtoegpalacppllaaGreat.Hn

/- What a trace proves: noise, deadness, who is named. No program is in sight here. -/
namespace Go.Proofs.YtoegpalacppllaaGreat.Tr
open Hn

/-- a box after so many queries of the same kind -/
def asks (o : List Bool) (f : Int) : Nat → Bo → Bo
  | 0, b => b
  | j + 1, b => asks o f j (askd b o f)
theorem asks_run {b0 : Bo} (o : List Bool) (f : Int) : ∀ (j : Nat) {b : Bo} {c : Nat}, Askd b0 b c → Askd b0 (asks o f j b) (c + j)
  | 0, b, c, h => h
  | j + 1, b, c, h => by
    rw [show c + (j + 1) = c + 1 + j by omega]
    exact asks_run o f j (h.ask o f)
/-- whether a box would play, but for noise and death -/
def wishB (b : Bo) (o : List Bool) (f : Int) : Bool := !decide ((stp o f o.length).1 = 0) && (decide ((stp o f o.length).2.1 = 0) || playB b (stp o f o.length).1 (stp o f o.length).2.1 (stp o f o.length).2.2)
def deadB (b : Bo) : Bool := decide (0 < b.v ∧ b.v < b.x)
theorem plays_iff {b : Bo} {o : List Bool} {f : Int} : plays b o f = true ↔ wishB b o f = true ∧ ¬ (0 < b.v ∧ b.v < (askd b o f).x) ∧ noiseB b = false := by
  unfold plays askW wishB
  rw [show (after b (stp o f o.length).1 (stp o f o.length).2.1) = askd b o f from rfl]
  generalize stp o f o.length = s
  constructor
  · intro h
    split at h
    · cases h
    · next hn =>
      have h1 : ¬ s.1 = 0 := fun e => hn (.inl e)
      have h2 : ¬ (0 < b.v ∧ b.v < (askd b o f).x) := fun e => hn (.inr (.inl e))
      have h3 : noiseB b = false := by rw [← Bool.not_eq_true]; exact fun e => hn (.inr (.inr e))
      refine ⟨?_, h2, h3⟩
      split at h
      · next hw => simp [h1, hw]
      · simp [h1, h]
  · rintro ⟨h1, h2, h3⟩
    simp only [Bool.and_eq_true, Bool.not_eq_true', decide_eq_false_iff_not, Bool.or_eq_true, decide_eq_true_eq] at h1
    rw [if_neg (by rintro (h | h | h); exact h1.1 h; exact h2 h; rw [h3] at h; cases h)]
    split
    · rfl
    · next hw => exact h1.2.resolve_left hw
theorem wish_same {b0 b : Bo} {c : Nat} (h : Askd b0 b c) (o : List Bool) (f : Int) : wishB b o f = wishB b0 o f := by
  unfold wishB playB oddB; rw [h.m, h.k]
theorem dead_mono {b0 b : Bo} {c : Nat} (h : Askd b0 b c) (hd : deadB b0 = true) : deadB b = true := by
  unfold deadB at *
  have h1 := of_decide_eq_true hd
  have := h.v
  have := h.x2
  exact decide_eq_true (by omega)
/-- what holds of a box whenever it is asked -/
structure Okb (b : Bo) : Prop where
  n0 : 0 ≤ b.n
  n8 : b.n ≤ 8
  x0 : 0 ≤ b.x
  x1 : b.x ≤ b.a
theorem Okb.run {b0 b : Bo} {c : Nat} (k : Okb b0) (h : Askd b0 b c) : Okb b := ⟨by rw [h.n]; exact k.n0, by rw [h.n]; exact k.n8, h.x0, h.x1⟩
theorem Okb.refl {b : Bo} (k : Okb b) : Askd b b 0 := Askd.refl k.x0 k.x1
theorem opens_get {b : Bo} {l : List (Int × Int)} {i n : Nat} (hi : i < n) : (opens b l n).getD i false = opnB b.s b.l (qn l i) (qm l i) := by
  unfold opens; simp [List.getD_eq_getElem?_getD, hi]
theorem mem_opn {s : Sc} {c : List Int} {v w : Int} {u : Int} (hu : u ∈ c) (h : memB s v w u.toNat = true) : opnB s c v w = true := by
  obtain ⟨i, hi, rfl⟩ := mem_at.1 hu
  exact List.any_eq_true.2 ⟨i, List.mem_range.2 hi, h⟩
/-- the end of a trace -/
structure Fin (N : Nat) (b0 : Bo) (tot : List Int) (r : Ts × Nat) : Prop where
  e : r.2 = 1 ∨ r.2 = 2
  ask : Askd b0 r.1.b r.1.a
  part : Part b0.s tot r.1.l r.1.nm
  col : ∀ u ∈ r.1.nm, u ∈ b0.l
  shut : wishB r.1.b r.1.o 0 = false ∨ deadB r.1.b = true
  fit : r.1.a + N ≤ (2 * p2 b0.s.d.toNat + 1) * ((b0.s.d.toNat + 2) * N)
  all : b0.v = 0 → r.2 = 1 ∧ wishB r.1.b r.1.o 0 = false
end Go.Proofs.YtoegpalacppllaaGreat.Tr

/- What a box plays: as its coalition knows; what is not open does not count; noise. No program is in sight here. -/
namespace Go.Proofs.YtoegpalacppllaaGreat.Tr
open Hn

/-- with no fakes each open item is right -/
theorem stp_zero (o : List Bool) : ∀ n, (stp o 0 n).2.1 = 0 ∧ ((stp o 0 n).1 = 0 ↔ ∀ i, i < n → o.getD i false = false)
  | 0 => ⟨rfl, ⟨fun _ i hi => by omega, fun _ => rfl⟩⟩
  | n + 1 => by
    obtain ⟨h1, h2⟩ := stp_zero o n
    cases h : o.getD n false with
    | false =>
      rw [stp_no h]
      refine ⟨h1, h2.trans ⟨fun k i hi => ?_, fun k i hi => k i (by omega)⟩⟩
      by_cases e : i = n
      · rw [e]; exact h
      · exact k i (by omega)
    | true =>
      rw [stp_right h (by omega)]
      refine ⟨h1, ⟨fun k => absurd k (by simp), fun k => ?_⟩⟩
      have := k n (by omega)
      rw [h] at this; cases this
def anyB (o : List Bool) (n : Nat) : Bool := (List.range n).any fun i => o.getD i false
theorem anyB_iff {o : List Bool} {n : Nat} : anyB o n = false ↔ ∀ i, i < n → o.getD i false = false := by
  unfold anyB
  rw [List.any_eq_false]
  exact ⟨fun h i hi => by simpa using h i (List.mem_range.2 hi), fun h i hi => by rw [h i (List.mem_range.1 hi)]; decide⟩
theorem wish_zero (b : Bo) (o : List Bool) : wishB b o 0 = anyB o o.length := by
  obtain ⟨h1, h2⟩ := stp_zero o o.length
  unfold wishB
  rw [decide_eq_true h1, Bool.true_or, Bool.and_true]
  cases h : anyB o o.length with
  | false => rw [decide_eq_true (h2.2 (anyB_iff.1 h))]; rfl
  | true =>
    rw [decide_eq_false fun e => by rw [anyB_iff.2 (h2.1 e)] at h; cases h]; rfl
theorem opens_getD {b : Bo} {l : List (Int × Int)} {i : Nat} (hi : i < l.length) : (opens b l l.length).getD i false = opnB b.s b.l (qn l i) (qm l i) := opens_get hi
end Go.Proofs.YtoegpalacppllaaGreat.Tr

/- What the end of a trace tells, as the outright statements ask. No program is in sight here. -/
namespace Go.Proofs.YtoegpalacppllaaGreat.Tr
open Hn

/-- the receivers of a list, in order -/
def restL (t : List Int) (n : Nat) : List Int := (rangeI n).filter fun u => t.contains u
theorem mem_restL {t : List Int} {n : Nat} {x : Int} : x ∈ restL t n ↔ (0 ≤ x ∧ x < n) ∧ x ∈ t := by
  rw [restL, List.mem_filter, mem_rangeI, List.contains_iff_mem]
theorem restL_nodup (t : List Int) (n : Nat) : (restL t n).Nodup := List.Pairwise.filter _ (nodup_rangeI n)
theorem len_eq_of {a b : List Int} (ha : a.Nodup) (hb : b.Nodup) (h : ∀ x, x ∈ a ↔ x ∈ b) : a.length = b.length :=
  Nat.le_antisymm (List.Nodup.length_le_of_subset ha fun x hx => (h x).1 hx) (List.Nodup.length_le_of_subset hb fun x hx => (h x).2 hx)
theorem restL_len {t : List Int} {n : Nat} (hn : t.Nodup) (hr : ∀ x ∈ t, 0 ≤ x ∧ x < n) : (restL t n).length = t.length :=
  len_eq_of (restL_nodup t n) hn fun x => ⟨fun h => (mem_restL.1 h).2, fun h => mem_restL.2 ⟨hr x h, h⟩⟩
/-- whether subsets are valid, and no receiver is a member of two -/
def memsB (s : Sc) (l : List (Int × Int)) : Bool := (List.range l.length).all (fun i => schB s && subB s (qn l i) (qm l i)) && decide (allm s l).Nodup
/-- the receivers of some subsets -/
def memsL (s : Sc) (l : List (Int × Int)) : List Int := if memsB s l then restL (allm s l) 64 else []
/-- a trace without an error -/
structure TrOk (b : Bo) (l : List (Int × Int)) (noise : Int) (r : Ts × Nat) : Prop where
  s : schB b.s = true
  box : chkB b = 0
  n0 : 0 ≤ noise
  n8 : noise ≤ 8
  lim : b.a + lim b.s.d noise ≤ 100000
  sub : ∀ i, i < l.length → subB b.s (qn l i) (qm l i) = true
  nd : (allm b.s l).Nodup
  fin : Fin (2 * noise.toNat + 1) b (allm b.s l) r
theorem all_64 {s : Sc} {l : List (Int × Int)} (hs : schB s = true) : ∀ x ∈ allm s l, 0 ≤ x ∧ x < 64 := fun x hx => by
  have h1 := all_lt hx
  have h2 := p2_le (n := s.d.toNat) (by have := schB_iff.1 hs; omega)
  omega
section
variable {b : Bo} {l : List (Int × Int)} {noise : Int} {r : Ts × Nat} (k : TrOk b l noise r)
include k
theorem TrOk.asked : (r.1.a : Int) ≤ boundV b.s noise ∧ boundE b.s noise = 0 := by
  obtain ⟨h1, h2⟩ := bound_ok k.s ⟨k.n0, k.n8⟩
  have hd := schB_iff.1 k.s
  rw [h1, h2, lim_nat (by omega) k.n0]
  have := k.fin.fit
  exact ⟨by omega, rfl⟩
theorem TrOk.nd2 : (allm b.s r.1.l ++ r.1.nm).Nodup := (k.fin.part.perm.nodup_iff).2 k.nd
theorem TrOk.okb : Okb b := by
  obtain ⟨hs, hu, h1, h2, h3, h4, h5, h6, h7, h8, h9, h10⟩ := chkB_ok (show ¬ chkB b ≠ 0 by have := k.box; omega)
  exact ⟨h3, h4, h9, h10⟩
theorem TrOk.s' : r.1.b.s = b.s := k.fin.ask.s
theorem TrOk.subs' : r.1.l.length ≤ 64 ∧ ∀ i, i < r.1.l.length → subB b.s (qn r.1.l i) (qm r.1.l i) = true := by
  have hd := schB_iff.1 k.s
  have h1 := (len_le k.s k.nd k.fin.part).2
  have h2 := p2_le (n := b.s.d.toNat) (by omega)
  exact ⟨by omega, fun i hi => k.fin.part.sub _ (q_mem.2 ⟨i, hi, rfl⟩)⟩
theorem TrOk.before : memsB b.s l = true ∧ memsL b.s l = restL (allm b.s l) 64 := by
  have h : memsB b.s l = true := by
    rw [memsB, Bool.and_eq_true, List.all_eq_true]
    exact ⟨fun i hi => by rw [k.s, k.sub i (List.mem_range.1 hi)]; rfl, decide_eq_true k.nd⟩
  exact ⟨h, if_pos h⟩
theorem TrOk.after : memsB b.s r.1.l = true ∧ memsL b.s r.1.l = restL (allm b.s r.1.l) 64 := by
  have h : memsB b.s r.1.l = true := by
    rw [memsB, Bool.and_eq_true, List.all_eq_true]
    exact ⟨fun i hi => by rw [k.s, k.subs'.2 i (List.mem_range.1 hi)]; rfl, decide_eq_true (List.nodup_append.1 k.nd2).1⟩
  exact ⟨h, if_pos h⟩
theorem TrOk.sum : (restL (allm b.s r.1.l) 64).length + r.1.nm.length = (restL (allm b.s l) 64).length := by
  rw [restL_len (List.nodup_append.1 k.nd2).1 (all_64 k.s), restL_len k.nd (all_64 k.s), ← k.fin.part.perm.length_eq, List.length_append]
theorem TrOk.named {u : Int} (hu : u ∈ r.1.nm) : u ∈ b.l ∧ u ∈ restL (allm b.s l) 64 ∧ u ∉ restL (allm b.s r.1.l) 64 := by
  have h1 := k.fin.part.perm.subset (List.mem_append_right _ hu)
  exact ⟨k.fin.col u hu, mem_restL.2 ⟨all_64 k.s u h1, h1⟩, fun h => (List.nodup_append.1 k.nd2).2.2 u (mem_restL.1 h).2 u hu rfl⟩
/-- the queries behind a trace -/
theorem TrOk.run (j : Nat) : Askd r.1.b (asks r.1.o 0 j r.1.b) j := by
  have := asks_run r.1.o 0 j (k.okb.run k.fin.ask).refl
  rwa [Nat.zero_add] at this
theorem TrOk.quiet (j : Nat) : plays (asks r.1.o 0 j r.1.b) r.1.o 0 = false := by
  cases h : plays (asks r.1.o 0 j r.1.b) r.1.o 0 with
  | false => rfl
  | true =>
    obtain ⟨h1, h2, -⟩ := plays_iff.1 h
    have hr := k.run j
    rw [wish_same hr] at h1
    rcases k.fin.shut with hs | hs
    · rw [h1] at hs; cases hs
    · have hd := dead_mono (hr.ask r.1.o 0) hs
      have := of_decide_eq_true hd
      rw [(hr.ask r.1.o 0).v, ← hr.v] at this
      exact absurd this h2
/-- of an immortal box all are named -/
theorem TrOk.all (hv : b.v = 0) {u : Int} (hu : u ∈ b.l) (hb : u ∈ restL (allm b.s l) 64) : u ∈ r.1.nm := by
  have h1 := (k.fin.all hv).2
  have h2 := (k.fin.part.perm.symm.subset (mem_restL.1 hb).2)
  rcases List.mem_append.1 h2 with h | h
  · exfalso
    obtain ⟨m, hm, hx⟩ := List.mem_flatten.1 h
    obtain ⟨y, hy, rfl⟩ := List.mem_map.1 hm
    obtain ⟨i, hi, e⟩ := q_mem.1 hy
    have hmem := (members_lt hx).2.2
    have ho := mem_opn (s := b.s) hu hmem
    rw [wish_zero, show r.1.o.length = r.1.l.length from opens_len _ _ _] at h1
    have := anyB_iff.1 h1 i hi
    rw [Ts.o, opens_getD hi, k.s', k.fin.ask.l] at this
    rw [e] at ho
    rw [ho] at this; cases this
  · exact h
end
end Go.Proofs.YtoegpalacppllaaGreat.Tr

/- The users who are among some. -/
namespace Go.Proofs.YtoegpalacppllaaGreat
open Go.RowKit Pl
open Tr Hn
/-- a byte of a list -/
def yt (l : List (BitVec 8)) (i : Nat) : BitVec 8 := l.getD i 0#8
theorem yt_get {l : List (BitVec 8)} {i : Nat} (h : i < l.length) : l[i]? = some (yt l i) := by simp [yt, List.getD_eq_getElem?_getD, h]
/-- a slice that reads as these bytes -/
def RdY (w : World) (s : Sl) (l : List (BitVec 8)) : Prop := RdC w s l.length (bl l)
theorem RdY.past {w W : World} {s : Sl} {l : List (BitVec 8)} (h : RdY w s l) (hb : Below w.heap.size w W) : RdY W s l := RdC.past h hb
theorem RdY.len {w : World} {s : Sl} {l : List (BitVec 8)} (h : RdY w s l) : s.n = l.length := h.n
theorem RdY.ptr {w : World} {s : Sl} {l : List (BitVec 8)} (h : RdY w s l) (hx : 0 < l.length) : ∃ b i, s.a = some ⟨b, i, none⟩ ∧ ∀ j, j < l.length → w.cell? ⟨b, i + j, none⟩ = some (.int .u8 ((yt l j).toNat : Int)) := by
 obtain ⟨b, i, h1, h2⟩ := RdC.ptr h (by rw [bl_len]; exact hx)
 exact ⟨b, i, h1, fun j hj => h2 j _ (bl_get (yt_get hj))⟩
/-- the users who are among these -/
def pirB (nn : Nat) (l : List (BitVec 8)) (u : Nat) : Bool := (List.range l.length).any fun k => (yt l k).toNat % nn == u
def pirL (nn : Nat) (l : List (BitVec 8)) (n : Nat) : List Int := (rangeI n).filter fun u => pirB nn l u.toNat
theorem pirL_yes {nn : Nat} {l : List (BitVec 8)} {u i : Nat} (hi : i < l.length) (h : (yt l i).toNat % nn = u) : pirL nn l (u + 1) = pirL nn l u ++ [(u : Int)] := by
 rw [pirL, rangeI_succ, List.filter_append, List.filter_cons_of_pos (by
  rw [Int.toNat_natCast]
  exact List.any_eq_true.2 ⟨i, List.mem_range.2 hi, by rw [h]; exact beq_self_eq_true u⟩)]; rfl
theorem pirL_no {nn : Nat} {l : List (BitVec 8)} {u : Nat} (h : ∀ k, k < l.length → (yt l k).toNat % nn ≠ u) : pirL nn l (u + 1) = pirL nn l u := by
 rw [pirL, rangeI_succ, List.filter_append, List.filter_cons_of_neg (by
  rw [Int.toNat_natCast, Bool.not_eq_true]
  exact List.any_eq_false.2 fun k hk => by simpa using h k (List.mem_range.1 hk))]; simp [pirL]
theorem pirL_le (nn : Nat) (l : List (BitVec 8)) (n : Nat) : (pirL nn l n).length ≤ n := Nat.le_trans (List.length_filter_le _ _) (by rw [len_rangeI]; exact Nat.le_refl _)
theorem pirL_up (nn : Nat) (l : List (BitVec 8)) (n : Nat) : Up (pirL nn l n) := by
 refine List.Pairwise.filter _ ?_
 rw [rangeI, List.pairwise_map]
 exact List.pairwise_lt_range.imp fun h => by omega
theorem pirL_mem {nn : Nat} {l : List (BitVec 8)} {n : Nat} {u : Int} (h : u ∈ pirL nn l n) : 0 ≤ u ∧ u < n := mem_rangeI.1 (List.mem_filter.1 h).1
set_option maxRecDepth 10000 in
/-- headend/headendlaw08.pirates -/
theorem g_pirates (nn : Nat) (aa : Option Addr) (an ac : Nat) (l : List (BitVec 8)) (h1 : 1 ≤ nn) (h64 : nn ≤ 64) (hl : l.length ≤ 64) : GivesX Tryz.prog 42 [.int .i64 (nn : Int), .slice aa an ac].toArray (fun w => RdY w ⟨aa, an, ac⟩ l) (fun v Bs => ∃ s : Sl, v = s.v ∧ NewI s (pirL nn l nn) Bs) := by
 refine givesX_of Tryz.func42 rfl (bs := [.int .i64 (nn : Int), .slice aa an ac, undef, undef, undef, undef, undef, undef, undef, undef, undef, undef, undef, undef, undef, undef, undef, undef, undef, undef, undef, undef, undef, undef, undef, undef, undef, undef, undef, undef, undef, undef, undef]) rfl ?_
 intro w hP hW
 have hn : an = l.length := hP.len
 refine c_seq (c_reg ?_)
 refine bS ?_
 refine l_end (n_then (c_seq (c_reg ?_)))
 refine bS ?_
 refine l_end (n_then (c_seq (c_seq (c_reg ?_))))
 refine aI ?_
 refine aI ?_
 refine l_end (n_then (c_block ?_))
 refine c_loop (fun (x : Nat × Option Addr × Nat × Nat × List Blk) (j : Nat → Value) => [.int .i64 (nn : Int), .slice aa an ac, j 2, j 3, j 4, .slice x.2.1 x.2.2.1 x.2.2.2.1, j 6, j 7, .int .i64 (nn : Int), .int .i64 (x.1 : Int), j 10, j 11, j 12, j 13, j 14, j 15, j 16, j 17, j 18, j 19, j 20, j 21, j 22, j 23, j 24, j 25, j 26, j 27, j 28, j 29, j 30, j 31, j 32]) (fun (x : Nat × Option Addr × Nat × Nat × List Blk) => [] ++ x.2.2.2.2) (fun (x : Nat × Option Addr × Nat × Nat × List Blk) => x.1 ≤ nn ∧ x.2.2.1 ≤ x.1 ∧ OwnSl 3 1 x.2.1 x.2.2.1 x.2.2.2.1 (il (pirL nn l x.1)) x.2.2.2.2) (fun (x : Nat × Option Addr × Nat × Nat × List Blk) => nn - x.1) (0, none, 0, 0, []) (by kernel_rfl) hW ⟨Nat.zero_le _, Nat.zero_le _, OwnSl.nil 3 1⟩ ?_
 intro x j W hx hW
 obtain ⟨hx, hml, hO⟩ := hx
 refine c_seq (c_reg ?_)
 refine l_val (r_lssN rfl rfl rfl rfl) rfl rfl ?_
 refine l_split ?_ ?_
 ·intro hc1
  replace hc1 := of_decide_eq_true hc1
  refine l_end (n_then (c_seq ?_))
  refine c_true rfl ?_
  refine c_skip (n_then (c_seq (c_block (c_seq (c_reg ?_)))))
  refine aI ?_
  refine bI ?_
  refine l_end (n_then (c_seq (c_reg ?_)))
  refine aS ?_
  refine l_val (r_lenSlice Tryz.underlying87 rfl rfl) rfl rfl ?_
  refine aI ?_
  refine l_end (n_then (c_block ?_))
  refine c_loop (fun (i : Nat) (j : Nat → Value) => [.int .i64 (nn : Int), .slice aa an ac, j 2, j 3, j 4, .slice x.2.1 x.2.2.1 x.2.2.2.1, .int .i64 (x.1 : Int), j 7, .int .i64 (nn : Int), .int .i64 (x.1 : Int), .bool true, .int .i64 (x.1 : Int), .slice aa an ac, .int .i64 (an : Int), .int .i64 (i : Int), j 15, j 16, j 17, j 18, j 19, j 20, j 21, j 22, j 23, j 24, j 25, j 26, j 27, j 28, j 29, j 30, j 31, j 32]) (fun (i : Nat) => [] ++ x.2.2.2.2) (fun (i : Nat) => i ≤ an ∧ ∀ k, k < i → (yt l k).toNat % nn ≠ x.1) (fun (i : Nat) => an - i) 0 (by kernel_rfl) hW ⟨Nat.zero_le _, fun k hk => by omega⟩ ?_
  intro i j W hx hW
  obtain ⟨hi, hik⟩ := hx
  refine c_seq (c_reg ?_)
  refine l_val (r_lssN rfl rfl rfl rfl) rfl rfl ?_
  refine l_split ?_ ?_
  ·intro hc2
   replace hc2 := of_decide_eq_true hc2
   obtain ⟨b0, o0, ha, hc⟩ := hP.ptr (by omega)
   refine l_end (n_then (c_seq ?_))
   refine c_true rfl ?_
   refine c_skip (n_then (c_seq (c_block (c_seq (c_reg ?_)))))
   refine aI ?_
   refine bI ?_
   refine l_end (n_then (c_seq (c_reg ?_)))
   refine aS ?_
   refine aI ?_
   refine l_val (r_indexAddrSl2 (n := i) Tryz.underlying87 tyC5.size rfl (congrArg (fun a => Value.slice a an ac) ha) rfl (by omega)) rfl rfl ?_
   refine l_loadF hW tyC5 (v := .int .u8 ((yt l (i)).toNat : Int)) (hc (i) (by omega)) rfl rfl rfl rfl ?_
   refine l_val (r_conv_u8_i64 Tryz.underlying5 Tryz.underlying3 rfl rfl) rfl rfl ?_
   refine aI ?_
   refine l_val (r_remN rfl rfl rfl (by omega)) rfl rfl ?_
   refine aI ?_
   refine l_val (r_eqlN rfl rfl rfl rfl) rfl rfl ?_
   refine l_split ?_ ?_
   ·intro hc3
    replace hc3 := of_decide_eq_true hc3
    refine l_end (n_then ?_)
    refine c_true rfl ?_
    refine c_seq (c_reg ?_)
    refine aS ?_
    refine aI ?_
    refine l_buildSliceF hW (bsl27_1_0 _) rfl rfl rfl rfl ?_
    intro gb W hW
    refine l_appendB tyE27 (L := [_]) hO hW 0 (N := x.2.2.1 + 1) rfl rfl rfl rfl rfl rfl rfl rfl (by simp [Value.oneCell']) (by unfold maxLen; omega) (by omega) ?_
    intro a1 c1 Bs1 W hO1 hW
    replace hO1 := hO1.castx rfl (xs' := il (pirL nn l (x.1 + 1))) (by rw [pirL_yes (i := i) (by omega) hc3, il_append]; rfl)
    refine bS ?_
    refine l_end (n_then (c_exit ?_))
    refine x_miss (by decide) ?_
    refine x_then (x_then ?_)
    refine x_hit ?_
    refine n_block (n_then (c_reg ?_))
    refine l_val (r_addN (n := 1) rfl rfl rfl (by omega)) rfl rfl ?_
    refine aI ?_
    refine l_end (n_then ?_)
    exact loop_next (x.1 + 1, a1, x.2.2.1 + 1, c1, Bs1) (by kernel_rfl) (hW.drop 1) ⟨by simp only; omega, by simp only; omega, hO1⟩ (by simp only; omega)
   ·intro hc3
    replace hc3 := of_decide_eq_false hc3
    refine l_end (n_then ?_)
    refine c_false rfl ?_
    refine c_skip (n_block (n_then (c_reg ?_)))
    refine l_val (r_addN (n := 1) rfl rfl rfl (by omega)) rfl rfl ?_
    refine aI ?_
    refine l_end (n_then ?_)
    exact loop_next (i + 1) (by kernel_rfl) hW ⟨by omega, fun k hk => by
     rcases Nat.lt_or_ge k i with h | h
     ·exact hik k h
     ·rw [show k = i by omega]; exact hc3⟩ (by omega)
  ·intro hc2
   replace hc2 := of_decide_eq_false hc2
   refine l_end (n_then (c_seq ?_))
   refine c_false rfl ?_
   refine c_exit (x_then (x_then ?_))
   refine x_hit ?_
   refine n_block (n_then (c_reg ?_))
   refine l_val (r_addN (n := 1) rfl rfl rfl (by omega)) rfl rfl ?_
   refine aI ?_
   refine l_end (n_then ?_)
   exact loop_next (x.1 + 1, x.2.1, x.2.2.1, x.2.2.2.1, x.2.2.2.2) (by kernel_rfl) hW ⟨by simp only; omega, by simp only; omega, by simp only; rw [pirL_no fun k hk => hik k (by omega)]; exact hO⟩ (by simp only; omega)
 ·intro hc1
  replace hc1 := of_decide_eq_false hc1
  have e : x.1 = nn := by omega
  rw [e] at hO
  refine l_end (n_then (c_seq ?_))
  refine c_false rfl ?_
  refine c_exit (x_then (x_then ?_))
  refine x_hit ?_
  refine n_then (c_seq (c_reg ?_))
  refine aS ?_
  refine bS ?_
  refine l_end (n_then (c_ret ?_))
  refine ret_tmp (v := .slice _ _ _) rfl rfl ?_
  exact ⟨_, _, rfl, ⟨⟨x.2.1, x.2.2.1, x.2.2.2.1⟩, rfl, hO.newI⟩, hW⟩

end Go.Proofs.YtoegpalacppllaaGreat

/- A region that draws its order: makers first, beside a new variable that may be made at any time; then what is left, order by order. No function of the program is in sight here. -/
namespace Go.Proofs.YtoegpalacppllaaGreat
open Go.RowKit
section
variable {P : Program} {ops : Array Oper} {Q : Exit → Act → World → Prop} {a : Act} {w0 : Base} {W : World} {L : List Blk} {md : Region.Mode} {S : List Nat} {r : Option (Option Nat)} {m : Nat} {ms : List Mk} {bs : List Value} {us : List (Nat × Value)} {ds : List Deferred}
def regionVB (ops : Array Oper) (ks : List Kd) (D ix M ord tl : List Nat) (z d : Nat) (dn : Array Bool) : Bool :=
  Region.noSelect ops && allB .any ops D ix (fun j => ks.getD j .tail) && masksB .any ops M && ((z :: (ord ++ tl)).all fun k => Nat.blt k ops.size) && ((ord ++ tl).length + 1 == ops.size) &&
    alB .any ops D ix (fun j => ks.getD j .tail) z d && ks.all noS && !(dn.getD z true) &&
    lexO .any ops (fun j => ks.getD j .tail) ix M (fun o done => (o == tl) && (done == dn.setIfInBounds z true)) (ord ++ tl) ((Array.replicate ops.size false).setIfInBounds z true)
theorem pickQ {b : Base} {W : World} {x : Blk} {B C : List Blk} (h : Cl b (x :: (B ++ C)) W) : Cl b ((x :: C) ++ B) W := h.perm (List.Perm.cons x List.perm_append_comm)
theorem c_regVB (hW : Cl w0 L W) {id : Nat} {os : List Oper} {oz : Oper} {t : Nat} {zc : List Value} (S : List Nat) (ks : List Kd) (ms : List Mk) (V : List (List Value)) (ix M ord tl : List Nat) (z d : Nat) (dn : Array Bool) (hm : P.follows .mixedOrders = true) (hB : regionVB os.toArray ks (ms.map Mk.d) ix M ord tl z d dn = true) (hV : V.length = ms.length) (hd : (ms.all fun k => Nat.blt k.d bs.length) = true)
    (hoz : os[z]? = some oz) (hal : ∀ ρ w, (execOp ρ oz).run P w = .ok (.value (.pointer (some ⟨w.heap.size, 0, none⟩))) (w.alloc (.cells zc.toArray t)))
    (h : lx P os.toArray w0 S ms (fun _ _ => False)
      (fun _ a' s' => Full ms s'.2 a' s'.1 fun a' L' => (∀ g w', Cl w0 (⟨g, zc, t⟩ :: L') w' → AW r m P .any os.toArray Q tl.length (dn.setIfInBounds z true) (a'.put (some d) (.pointer (some ⟨g, 0, none⟩))) w') ∧ ∀ w', Cl w0 L' w' → AW r m P .any os.toArray Q (tl.length + 1) dn a' w') ((ord ++ tl).map fun j => ks.getD j .tail) (pickL os.toArray (ord ++ tl)) (fr bs us ds) (L, V)) : CW r m P (Code.region id os.toArray true) Q (fr bs us ds) W := by
  simp only [regionVB, Bool.and_eq_true, beq_iff_eq, Bool.not_eq_true'] at hB
  obtain ⟨⟨⟨⟨⟨⟨⟨⟨hsel, hall⟩, hM⟩, hv⟩, hlen⟩, hzB⟩, hnS⟩, hdz⟩, hlex⟩ := hB
  obtain ⟨oz', hz⟩ := alB_spec hzB
  have hoz' : oz' = oz := by
    have h1 := hz.at_
    simp only [List.getElem?_toArray] at h1
    rw [hoz] at h1; injection h1 with h1; exact h1.symm
  subst hoz'
  have hns : ∀ i, noS (ks.getD i .tail) = true := fun i => by
    rcases Nat.lt_or_ge i ks.length with hi | hi
    · rw [List.getD_eq_getElem?_getD, List.getElem?_eq_getElem hi]
      exact List.all_eq_true.1 hnS _ (List.getElem_mem hi)
    · rw [List.getD_eq_getElem?_getD, List.getElem?_eq_none hi]; rfl
  have hv' : ∀ k ∈ z :: (ord ++ tl), k < os.toArray.size := fun k hk => by
    have := List.all_eq_true.1 hv k hk
    rwa [Nat.blt_eq] at this
  have hzlt := hv' z (by simp)
  have sz : ∀ {k : Mk} {l : List Mk}, (l.all fun k => Nat.blt k.d bs.length) = true → k ∈ l → k.d < (fr bs us ds).tmps.size := fun hl hk => by
    have := List.all_eq_true.1 hl _ hk
    rw [Nat.blt_eq] at this
    simpa [fr, toL_len] using this
  obtain ⟨T, hT⟩ : ∃ T : Act → List Blk → Prop, T = fun a' L' => (∀ g w', Cl w0 (⟨g, zc, t⟩ :: L') w' → AW r m P .any os.toArray Q tl.length (dn.setIfInBounds z true) (a'.put (some d) (.pointer (some ⟨g, 0, none⟩))) w') ∧ ∀ w', Cl w0 L' w' → AW r m P .any os.toArray Q (tl.length + 1) dn a' w' := ⟨_, rfl⟩
  rw [← hT] at h
  have ne0 : ∀ i, (Array.replicate os.toArray.size false).getD i false = false := fun i => none_done _ _
  have H : AW r m P .any os.toArray Q os.toArray.size (Array.replicate os.toArray.size false) (fr bs us ds) W.drew := by
    have hc0 : Closed .any os.toArray ((Array.replicate os.toArray.size false).setIfInBounds z true) := fun j oj hj hd e he hb => by
      by_cases hjz : z = j
      · subst hjz
        obtain rfl : oj = oz' := Option.some.inj (hj.symm.trans hz.at_)
        rw [hz.after e he] at hb; cases hb
      · rw [getD_set_ne false hjz, ne0] at hd; cases hd
    have h1 := anyC_lexO (P := P) (w0 := w0) (S := S) (ms := ms) (md := .any) (kd := fun j => ks.getD j .tail) (ix := ix) (R := fun _ _ => False) (T := fun _ a' s' => Full ms s'.2 a' s'.1 T) (U := fun f done a s => f = tl.length ∧ done = dn.setIfInBounds z true ∧ Full ms s.2 a s.1 T)
      hM hsel (fun o done a s hc ht hT => by
        simp only [Bool.and_eq_true, beq_iff_eq] at ht
        exact ⟨by rw [ht.1], ht.2, hT⟩) (ord ++ tl) ((Array.replicate os.toArray.size false).setIfInBounds z true) (fr bs us ds) (L, V) (fun k hk => hv' k (by simp only [List.mem_cons]; exact .inr hk)) hc0 hlex h
    have h2 := anyC_v (N := (fr bs us ds).tmps.size) (P := P) (r := r) (m := m) (Q := Q) (allB_spec hall) (Region.noSelect_spec hsel) hz hns hal
      (fun f done a s vs Ns w g hMd hs hC hsz ⟨hf, hdn, hF⟩ => by
        obtain ⟨L', hp, hk⟩ := Full.use hMd hs hF
        rw [hT] at hk
        rw [← puts_put ms vs a hz.ds, hz.dst, hf, hdn]
        exact hk.1 g w (hC.perm (by
          rw [List.append_assoc]
          exact (List.Perm.append_left _ List.perm_append_comm).trans (by rw [← List.append_assoc]; exact (hp.append_right _).trans (List.perm_append_singleton _ _)))))
      (fun f done a s vs Ns w hMd hs hC hsz hc hd ⟨hf, hdn, hF⟩ => by
        obtain ⟨L', hp, hk⟩ := Full.use hMd hs hF
        rw [hT] at hk
        have e : done = dn := by
          rw [← set_back hd, hdn, set_back hdz]
        rw [hf, e]
        exact hk.2 w (hC.perm hp))
      (ord ++ tl).length (Array.replicate os.toArray.size false) (fr bs us ds) (L, V) _ _ W.drew (fun j oj _ hd => by rw [ne0] at hd; cases hd) (by simp only [List.size_toArray] at hzlt; simp [hzlt]) (none_made ms V hV) (made0 fun i _ => none_done _ _) (fun k hk => sz hd hk) rfl (by
        have : (List.replicate ms.length ([] : List Blk)).flatten = [] := by simp
        rw [this, List.append_nil]
        exact hW.drew) h1
    rw [none_puts, hlen] at h2
    exact h2
  cases r with
  | none => exact wp_region_any hm H
  | some k => exact wpIn_region_any hm H
end
end Go.Proofs.YtoegpalacppllaaGreat

/- The law of dynamic tracing: pirates alone are named, few variants, all of them in time. -/
namespace Go.Proofs.YtoegpalacppllaaGreat
open Go.RowKit Pl
open Tr Hn
/-- a hunt at a round: the hunt, where it lies, the round, its memory -/
structure HS where
 h : Hu
 p : Sl
 r : Sl
 q : Sl
 ss : List Sl
 k : Nat
 B : List Blk
/-- the variants of the first pirates who are not named -/
def opN (h : Hu) (bad : List Int) (n : Nat) : List Int := ((bad.take n).filter fun u => decide (0 ≤ variantB h u)).map (variantB h)
theorem opN_yes {h : Hu} {bad : List Int} {n : Nat} (hn : n < bad.length) (h0 : 0 ≤ variantB h (at_ bad n)) : opN h bad (n + 1) = opN h bad n ++ [variantB h (at_ bad n)] := by
 have e : bad[n] = at_ bad n := by simp [at_, List.getD_eq_getElem?_getD, hn]
 rw [opN, List.take_succ_eq_append_getElem hn, List.filter_append, e, show List.filter (fun u => decide (0 ≤ variantB h u)) [at_ bad n] = [at_ bad n] from List.filter_cons_of_pos (decide_eq_true h0), List.map_append]; rfl
theorem opN_no {h : Hu} {bad : List Int} {n : Nat} (hn : n < bad.length) (h0 : ¬ 0 ≤ variantB h (at_ bad n)) : opN h bad (n + 1) = opN h bad n := by
 have e : bad[n] = at_ bad n := by simp [at_, List.getD_eq_getElem?_getD, hn]
 rw [opN, List.take_succ_eq_append_getElem hn, List.filter_append, e, show List.filter (fun u => decide (0 ≤ variantB h u)) [at_ bad n] = [] from List.filter_cons_of_neg (by rw [decide_eq_false h0]; decide), List.append_nil]; rfl
theorem opN_all {h : Hu} {bad : List Int} : opN h bad bad.length = openV h bad := by rw [opN, List.take_of_length_le (Nat.le_refl _)]; rfl
theorem pickNm {b : Base} {W : World} {x z : Blk} {P Y V S N : List Blk} (h : Cl b ((((((x :: [z]) ++ P) ++ Y) ++ V) ++ S) ++ N) W) : Cl b (([z] ++ P) ++ N) W := h.pick (x :: (Y ++ (V ++ S))) (by classical exact List.perm_iff_count.2 fun y => by simp only [List.count_append, List.count_cons, List.count_nil]; omega)
set_option maxRecDepth 10000 in
set_option maxHeartbeats 2000000 in
/-- headend/headendlaw08.TraceNames -/
theorem g_TraceNames (u : BitVec 8) (aa : Option Addr) (an ac : Nat) (l : List (BitVec 8)) (da : Option Addr) (dn dc : Nat) (m : List (BitVec 8)) : GivesR Tryz.prog 8 [.int .u8 (u.toNat : Int), .slice aa an ac, .slice da dn dc].toArray (fun w => RdY w ⟨aa, an, ac⟩ l ∧ RdY w ⟨da, dn, dc⟩ m) (.bool true) := by
 refine givesR_of Tryz.func8 rfl (bs := [.int .u8 (u.toNat : Int), .slice aa an ac, .slice da dn dc, undef, undef, undef, undef, undef, undef, undef, undef, undef, undef, undef, undef, undef, undef, undef, undef, undef, undef, undef, undef, undef, undef, undef, undef, undef, undef, undef, undef, undef, undef, undef, undef, undef, undef, undef, undef, undef, undef, undef, undef, undef, undef, undef, undef, undef, undef, undef, undef, undef, undef, undef, undef, undef, undef, undef, undef, undef, undef, undef, undef, undef, undef, undef, undef, undef, undef, undef, undef, undef, undef, undef, undef, undef, undef, undef, undef, undef, undef, undef, undef, undef, undef, undef, undef, undef, undef, undef, undef, undef, undef, undef, undef, undef, undef, undef, undef, undef, undef, undef, undef, undef, undef, undef, undef, undef, undef, undef, undef, undef, undef, undef, undef, undef, undef, undef, undef, undef, undef, undef, undef, undef, undef, undef, undef, undef, undef, undef, undef, undef, undef, undef, undef, undef, undef, undef, undef, undef, undef, undef, undef, undef, undef, undef, undef, undef, undef, undef, undef]) rfl ?_
 intro w hP hW
 have hal : an = l.length := hP.1.len
 have hdl : dn = m.length := hP.2.len
 obtain ⟨nn, hnn⟩ : ∃ nn, nn = u.toNat % 64 + 1 := ⟨_, rfl⟩
 have hn1 : 1 ≤ nn := by omega
 have hn64 : nn ≤ 64 := by omega
 refine c_seq (c_reg ?_)
 refine bB ?_
 refine l_end (n_then (c_seq (c_reg ?_)))
 refine l_callR hW (Pre := fun _ => True) (fun w _ => g_alive w) en31 trivial rfl rfl rfl rfl ?_
 intro W hW
 refine bB ?_
 refine l_end (n_then (c_seq (c_reg ?_)))
 refine aI ?_
 refine l_val (r_conv_u8_i64 Tryz.underlying5 Tryz.underlying3 rfl rfl) rfl rfl ?_
 refine l_val (r_remN (n := 64) rfl rfl rfl (by omega)) rfl rfl ?_
 refine l_val (r_addN (n := 1) rfl rfl rfl (by omega)) rfl rfl ?_
 refine bI ?_
 refine l_end ?_
 rw [← hnn]
 refine n_then (c_seq (c_seq (c_reg ?_)))
 refine aS ?_
 refine l_val (r_lenSlice Tryz.underlying87 rfl rfl) rfl rfl ?_
 refine l_val (r_gtrN (n := 64) rfl rfl rfl rfl) rfl rfl ?_
 refine l_split ?_ ?_
 ·intro hc1
  replace hc1 := of_decide_eq_true hc1
  refine aB ?_
  refine lN ?_
  refine lN ?_
  refine kB ?_
  refine l_end (n_then ?_)
  refine c_true rfl ?_
  refine c_seq (c_reg ?_)
  refine aB ?_
  refine bB ?_
  refine l_end (n_then (c_ret (r_then ?_)))
  refine ret_tmp (v := .bool true) rfl ?_ ⟨rfl, hW.below⟩
  rfl
 ·intro hc1
  replace hc1 := of_decide_eq_false hc1
  refine aB ?_
  refine l_valG (r_move (v := .bool _) rfl rfl) (by kernel_rfl) rfl ?_
  refine l_valG (r_not rfl rfl) (by kernel_rfl) rfl ?_
  refine kB ?_
  refine l_end (n_then ?_)
  refine c_false rfl ?_
  refine c_skip (n_then (c_seq (c_reg ?_)))
  refine aI ?_
  refine aS ?_
  refine l_callX hW (g_pirates nn aa an ac l hn1 hn64 (by omega)) en42 (hP.1.past hW.below) rfl rfl rfl rfl ?_
  rintro _ BP W ⟨sP, rfl, nP⟩ hW
  have hbu := pirL_up nn l nn
  have hbr : ∀ u ∈ pirL nn l nn, 0 ≤ u ∧ u < (nn : Int) := fun u h => pirL_mem h
  have hbl := pirL_le nn l nn
  obtain ⟨bad, hbad⟩ : ∃ bad, bad = pirL nn l nn := ⟨_, rfl⟩
  rw [← hbad] at nP hbu hbr hbl
  have hpn := nP.n
  refine bS ?_
  refine l_end (n_then (c_seq (c_reg ?_)))
  refine aI ?_
  refine l_callX hW (g_NewHunt (nn : Int)) en28 trivial rfl rfl rfl rfl ?_
  rintro _ B1 W ⟨_, rfl, p1, r1, q1, ss1, rfl, n1⟩ hW
  rw [show newE (nn : Int) = 0 from if_pos ⟨by omega, by omega⟩]
  refine l_val (r_move (v := .tuple _) rfl rfl) rfl rfl ?_
  refine l_val (r_extract (v := .agg _) rfl rfl rfl) rfl rfl ?_
  refine l_val (r_extract (v := .int _ _) rfl rfl rfl) rfl rfl ?_
  refine l_alloc hW tyZ69 rfl rfl rfl ?_
  intro g1 W hW
  refine sA hW 0 tyA69 ?_
  intro W hW
  refine bI ?_
  refine l_end (n_then (c_seq (c_reg ?_)))
  refine aI ?_
  refine aS ?_
  refine l_val (r_lenSlice Tryz.underlying27 rfl rfl) rfl rfl ?_
  have hro := rounds_ok (u := (nn : Int)) (p := (sP.n : Int)) ⟨by omega, by omega, by omega, by omega⟩
  obtain ⟨mst, hmst2⟩ : ∃ mst : Nat, mst = bad.length * (1 + clog nn) := ⟨_, rfl⟩
  have hcl6 := clog_le (nn : Int)
  have hmst64 : mst ≤ 448 := by rw [hmst2]; exact Nat.mul_le_mul (show bad.length ≤ 64 by omega) (show 1 + clog nn ≤ 7 by omega)
  have kr := g_Rounds (nn : Int) (sP.n : Int)
  rw [hro.2, show roundsV (nn : Int) (sP.n : Int) = (mst : Int) from by rw [hro.1, hpn, hmst2, Int.natCast_mul]] at kr
  refine l_call hW kr en30 rfl rfl rfl rfl ?_
  intro W hW
  refine l_val (r_move (v := .tuple _) rfl rfl) rfl rfl ?_
  refine l_val (r_extract (v := .int _ _) rfl rfl rfl) rfl rfl ?_
  refine l_val (r_extract (v := .int _ _) rfl rfl rfl) rfl rfl ?_
  refine bI ?_
  refine bI ?_
  refine l_end (n_then (c_seq (c_seq (c_reg ?_))))
  refine aI ?_
  refine l_val (r_neq (b := false) rfl rfl rfl (by decide)) rfl rfl ?_
  refine aB ?_
  refine gI ?_
  refine l_valG (r_neq (b := false) rfl rfl rfl (by decide)) (by kernel_rfl) rfl ?_
  refine kB ?_
  refine l_end (n_then ?_)
  refine c_false rfl ?_
  refine c_skip (n_then (c_seq (c_reg ?_)))
  refine bI ?_
  refine l_end (n_then (c_block ?_))
  refine c_loop (fun (y : HS) (j : Nat → Value) => [.int .u8 (u.toNat : Int), .slice aa an ac, .slice da dn dc, j 3, j 4, j 5, j 6, .bool true, .int .i64 (nn : Int), .slice sP.a sP.n sP.c, .pointer (some ⟨g1, 0, none⟩), .int .i64 0, .int .i64 (mst : Int), .int .i64 0, .int .i64 (y.k : Int), j 15, j 16, j 17, j 18, j 19, j 20, j 21, j 22, .bool true, .int .u8 (u.toNat : Int), .int .i64 (u.toNat : Int), j 26, .int .i64 (nn : Int), .slice aa an ac, .int .i64 (an : Int), .bool false, .bool false, .bool true, .bool false, .bool false, j 35, .int .i64 (nn : Int), .slice aa an ac, .slice sP.a sP.n sP.c, .tuple #[.agg [.int .i64 (newH nn).users, .slice p1.a p1.n p1.c, .slice r1.a r1.n r1.c, .slice q1.a q1.n q1.c, .int .i64 (newH nn).rounds].toArray, .int .i64 0], .int .i64 (nn : Int), .tuple #[.agg [.int .i64 (newH nn).users, .slice p1.a p1.n p1.c, .slice r1.a r1.n r1.c, .slice q1.a q1.n q1.c, .int .i64 (newH nn).rounds].toArray, .int .i64 0], .agg [.int .i64 (newH nn).users, .slice p1.a p1.n p1.c, .slice r1.a r1.n r1.c, .slice q1.a q1.n q1.c, .int .i64 (newH nn).rounds].toArray, .int .i64 0, .tuple #[.int .i64 (mst : Int), .int .i64 0], .int .i64 (nn : Int), .slice sP.a sP.n sP.c, .int .i64 (sP.n : Int), .tuple #[.int .i64 (mst : Int), .int .i64 0], .int .i64 (mst : Int), .int .i64 0, .int .i64 0, .bool false, .bool false, .int .i64 0, .bool false, .bool false, j 57, j 58, j 59, j 60, j 61, j 62, j 63, j 64, j 65, j 66, j 67, j 68, j 69, j 70, j 71, j 72, j 73, j 74, j 75, j 76, j 77, j 78, j 79, j 80, j 81, j 82, j 83, j 84, j 85, j 86, j 87, j 88, j 89, j 90, j 91, j 92, j 93, j 94, j 95, j 96, j 97, j 98, j 99, j 100, j 101, j 102, j 103, j 104, j 105, j 106, j 107, j 108, j 109, j 110, j 111, j 112, j 113, j 114, j 115, j 116, j 117, j 118, j 119, j 120, j 121, j 122, j 123, j 124, j 125, j 126, j 127, j 128, j 129, j 130, j 131, j 132, j 133, j 134, j 135, j 136, j 137, j 138, j 139, j 140, j 141, j 142, j 143, j 144, j 145, j 146, j 147, j 148, j 149, j 150]) (fun (y : HS) => [⟨g1, [.int .i64 y.h.users, .slice y.p.a y.p.n y.p.c, .slice y.r.a y.r.n y.r.c, .slice y.q.a y.q.n y.q.c, .int .i64 y.h.rounds], 69⟩] ++ BP ++ y.B) (fun (y : HS) => Inv nn bad y.h y.k ∧ NewHu y.h y.p y.r y.q y.ss y.B) (fun (y : HS) => mst - y.k) (⟨newH nn, p1, r1, q1, ss1, 0, B1⟩ : HS) (by kernel_rfl) hW ⟨Inv.first (by omega) (by omega), n1⟩ ?_
  intro y j W hx hW
  obtain ⟨hI, hN⟩ := hx
  have hv := hI.v
  have hu := hI.users
  have hsm := valid_small hv
  have hps := hv.p
  have hps0 := hsm.one y.h.named (by simp [groups])
  have hev := hI.even
  have hrd := hI.rounds
  have hvars : varsR y.h = variants y.h := varsR_yes ((valid_iff _).2 hv)
  have hvl : (varsR y.h).length = nn := by rw [hvars, vars_len, hu]; omega
  have hsum := hI.sum hbu hbr
  have hprs := hI.pairs hbr
  refine c_seq (c_block (c_seq (c_reg ?_)))
  refine dA hW 0 tyA69 ?_
  have hn5 := (hN.rep.at (show Cl _ (([_] ++ BP) ++ y.B) _ from hW) ((List.sublist_append_right _ y.B)))
  refine l_callX hW (g_Variants y.h y.p.a y.p.n y.p.c y.r y.q y.ss hsm (hun_fit hn5 (by omega))) en39 hn5 rfl rfl rfl rfl ?_
  rintro _ B6 W ⟨s6, rfl, n6⟩ hW
  rw [chkH_yes ((valid_iff _).2 hv)]
  have hs6 := n6.n
  refine l_val (r_move (v := .tuple _) rfl rfl) rfl rfl ?_
  refine l_val (r_extract (v := .slice _ _ _) rfl rfl rfl) rfl rfl ?_
  refine l_val (r_extract (v := .int _ _) rfl rfl rfl) rfl rfl ?_
  refine bS ?_
  refine bI ?_
  refine l_end (n_then (c_seq (c_seq (c_reg ?_))))
  refine aI ?_
  refine l_val (r_neq (b := false) rfl rfl rfl (by decide)) rfl rfl ?_
  refine aB ?_
  refine l_valG (r_move (v := .slice _ _ _) rfl rfl) (by kernel_rfl) rfl ?_
  refine l_valG (r_lenSlice Tryz.underlying27 rfl rfl) (by kernel_rfl) rfl ?_
  refine gI ?_
  refine l_valG (r_neqN rfl rfl rfl rfl) (by kernel_rfl) rfl ?_
  refine l_split ?_ ?_
  ·intro hc2
   replace hc2 := of_decide_eq_true hc2
   omega
  ·intro hc2
   replace hc2 := of_decide_eq_false hc2
   refine kB ?_
   refine l_end (n_then ?_)
   refine c_false rfl ?_
   refine c_skip (n_then (c_seq (c_reg ?_)))
   refine bS ?_
   refine l_end (n_then (c_seq (c_seq (c_reg ?_))))
   refine aS ?_
   refine l_val (r_lenSlice Tryz.underlying27 rfl rfl) rfl rfl ?_
   refine aI ?_
   refine l_end (n_then (c_block ?_))
   refine c_loop (fun (x : Nat × Option Addr × Nat × Nat × List Blk) (j : Nat → Value) => [.int .u8 (u.toNat : Int), .slice aa an ac, .slice da dn dc, j 3, j 4, j 5, j 6, .bool true, .int .i64 (nn : Int), .slice sP.a sP.n sP.c, .pointer (some ⟨g1, 0, none⟩), .int .i64 0, .int .i64 (mst : Int), .int .i64 0, .int .i64 (y.k : Int), .slice s6.a s6.n s6.c, .int .i64 0, .slice x.2.1 x.2.2.1 x.2.2.2.1, j 18, j 19, j 20, j 21, j 22, .bool true, .int .u8 (u.toNat : Int), .int .i64 (u.toNat : Int), j 26, .int .i64 (nn : Int), .slice aa an ac, .int .i64 (an : Int), .bool false, .bool false, .bool true, .bool false, .bool false, j 35, .int .i64 (nn : Int), .slice aa an ac, .slice sP.a sP.n sP.c, .tuple #[.agg [.int .i64 (newH nn).users, .slice p1.a p1.n p1.c, .slice r1.a r1.n r1.c, .slice q1.a q1.n q1.c, .int .i64 (newH nn).rounds].toArray, .int .i64 0], .int .i64 (nn : Int), .tuple #[.agg [.int .i64 (newH nn).users, .slice p1.a p1.n p1.c, .slice r1.a r1.n r1.c, .slice q1.a q1.n q1.c, .int .i64 (newH nn).rounds].toArray, .int .i64 0], .agg [.int .i64 (newH nn).users, .slice p1.a p1.n p1.c, .slice r1.a r1.n r1.c, .slice q1.a q1.n q1.c, .int .i64 (newH nn).rounds].toArray, .int .i64 0, .tuple #[.int .i64 (mst : Int), .int .i64 0], .int .i64 (nn : Int), .slice sP.a sP.n sP.c, .int .i64 (sP.n : Int), .tuple #[.int .i64 (mst : Int), .int .i64 0], .int .i64 (mst : Int), .int .i64 0, .int .i64 0, .bool false, .bool false, .int .i64 0, .bool false, .bool false, j 57, j 58, .tuple #[.slice s6.a s6.n s6.c, .int .i64 0], .agg ([.int .i64 y.h.users, .slice y.p.a y.p.n y.p.c, .slice y.r.a y.r.n y.r.c, .slice y.q.a y.q.n y.q.c, .int .i64 y.h.rounds]).toArray, .tuple #[.slice s6.a s6.n s6.c, .int .i64 0], .slice s6.a s6.n s6.c, .int .i64 0, .int .i64 0, .bool false, .bool false, .slice s6.a s6.n s6.c, .int .i64 (s6.n : Int), .int .i64 (nn : Int), .bool false, .bool false, .slice sP.a sP.n sP.c, .int .i64 (sP.n : Int), .int .i64 (x.1 : Int), j 75, j 76, j 77, j 78, j 79, j 80, j 81, j 82, j 83, j 84, j 85, j 86, j 87, j 88, j 89, j 90, j 91, j 92, j 93, j 94, j 95, j 96, j 97, j 98, j 99, j 100, j 101, j 102, j 103, j 104, j 105, j 106, j 107, j 108, j 109, j 110, j 111, j 112, j 113, j 114, j 115, j 116, j 117, j 118, j 119, j 120, j 121, j 122, j 123, j 124, j 125, j 126, j 127, j 128, j 129, j 130, j 131, j 132, j 133, j 134, j 135, j 136, j 137, j 138, j 139, j 140, j 141, j 142, j 143, j 144, j 145, j 146, j 147, j 148, j 149, j 150]) (fun (x : Nat × Option Addr × Nat × Nat × List Blk) => [⟨g1, [.int .i64 y.h.users, .slice y.p.a y.p.n y.p.c, .slice y.r.a y.r.n y.r.c, .slice y.q.a y.q.n y.q.c, .int .i64 y.h.rounds], 69⟩] ++ BP ++ y.B ++ B6 ++ x.2.2.2.2) (fun (x : Nat × Option Addr × Nat × Nat × List Blk) => x.1 ≤ sP.n ∧ x.2.2.1 ≤ x.1 ∧ OwnSl 3 1 x.2.1 x.2.2.1 x.2.2.2.1 (il (opN y.h bad x.1)) x.2.2.2.2) (fun (x : Nat × Option Addr × Nat × Nat × List Blk) => sP.n - x.1) (0, none, 0, 0, []) (by kernel_rfl) (by simpa using hW) ⟨Nat.zero_le _, Nat.zero_le _, OwnSl.nil 3 1⟩ ?_
   intro x j W hx hW
   obtain ⟨hx1, hx2, hO⟩ := hx
   refine c_seq (c_reg ?_)
   refine l_val (r_lssN rfl rfl rfl rfl) rfl rfl ?_
   refine l_split ?_ ?_
   ·intro hc3
    replace hc3 := of_decide_eq_true hc3
    obtain ⟨b3, o3, ha3, hd3⟩ := ((nP.rep.at (show Cl _ (((([_] ++ BP) ++ y.B) ++ B6) ++ x.2.2.2.2) _ from hW) (((((List.sublist_append_right _ BP).trans (List.sublist_append_left _ y.B)).trans (List.sublist_append_left _ B6)).trans (List.sublist_append_left _ x.2.2.2.2))))).ptr (by omega)
    have hbm := hbr _ (at_mem (l := bad) (i := x.1) (by omega))
    obtain ⟨ub, hub⟩ : ∃ ub : Nat, at_ bad x.1 = (ub : Int) := ⟨(at_ bad x.1).toNat, by omega⟩
    have hatv : at_ (varsR y.h) ub = variantB y.h (at_ bad x.1) := by rw [hvars, at_vars (by omega), hub]
    obtain ⟨b4, o4, ha4, hd4⟩ := ((n6.rep.at (show Cl _ (((([_] ++ BP) ++ y.B) ++ B6) ++ x.2.2.2.2) _ from hW) (((List.sublist_append_right _ B6).trans (List.sublist_append_left _ x.2.2.2.2))))).ptr (by omega)
    refine l_end (n_then (c_seq ?_))
    refine c_true rfl ?_
    refine c_skip (n_then (c_seq (c_block (c_seq (c_reg ?_)))))
    refine l_val (r_indexAddrSl2 (n := x.1) Tryz.underlying27 tyC3.size rfl (congrArg (fun a => Value.slice a sP.n sP.c) ha3) rfl (by omega)) rfl rfl ?_
    refine l_loadW tyC3 (v := .int .i64 (ub : Int)) ((hd3 (x.1) (by omega)).trans (congrArg (fun x => some (IV x)) hub)) rfl rfl rfl rfl ?_
    refine bI ?_
    refine l_end (n_then (c_seq (c_reg ?_)))
    refine aS ?_
    refine aI ?_
    refine l_val (r_indexAddrSl2 (n := ub) Tryz.underlying27 tyC3.size rfl (congrArg (fun a => Value.slice a s6.n s6.c) ha4) rfl (by omega)) rfl rfl ?_
    refine l_loadW tyC3 (v := .int .i64 (at_ (varsR y.h) (ub))) (hd4 (ub) (by omega)) rfl rfl rfl rfl ?_
    refine l_val (r_geq rfl rfl rfl rfl) rfl rfl ?_
    refine l_split ?_ ?_
    ·intro hc4
     replace hc4 := of_decide_eq_true hc4
     refine l_end (n_then ?_)
     refine c_true rfl ?_
     refine c_reg ?_
     refine aS ?_
     refine aS ?_
     refine aI ?_
     refine l_val (r_indexAddrSl2 (n := ub) Tryz.underlying27 tyC3.size rfl (congrArg (fun a => Value.slice a s6.n s6.c) ha4) rfl (by omega)) rfl rfl ?_
     refine l_loadW tyC3 (v := .int .i64 (at_ (varsR y.h) (ub))) (hd4 (ub) (by omega)) rfl rfl rfl rfl ?_
     refine l_buildSliceF hW (bsl27_1_0 _) rfl rfl rfl rfl ?_
     intro gb W hW
     refine l_appendB tyE27 (L := (([_, _] ++ BP) ++ y.B) ++ B6) hO hW 0 (N := x.2.2.1 + 1) rfl rfl rfl rfl rfl rfl rfl rfl (by simp [Value.oneCell']) (by unfold maxLen; omega) (by omega) ?_
     intro a1 c1 Bs1 W hO1 hW
     replace hO1 := hO1.castx rfl (xs' := il (opN y.h bad (x.1 + 1))) (by rw [opN_yes (by omega) (by rw [← hatv]; exact hc4), il_append, hatv]; rfl)
     refine bS ?_
     refine l_end (n_block (n_then (c_reg ?_)))
     refine l_val (r_addN (n := 1) rfl rfl rfl (by omega)) rfl rfl ?_
     refine aI ?_
     refine l_end (n_then ?_)
     exact loop_next (x.1 + 1, a1, x.2.2.1 + 1, c1, Bs1) (by kernel_rfl) (hW.drop 1) ⟨by simp only; omega, by simp only; omega, hO1⟩ (by simp only; omega)
    ·intro hc4
     replace hc4 := of_decide_eq_false hc4
     refine l_end (n_then ?_)
     refine c_false rfl ?_
     refine c_skip (n_block (n_then (c_reg ?_)))
     refine l_val (r_addN (n := 1) rfl rfl rfl (by omega)) rfl rfl ?_
     refine aI ?_
     refine l_end (n_then ?_)
     exact loop_next (x.1 + 1, x.2.1, x.2.2.1, x.2.2.2.1, x.2.2.2.2) (by kernel_rfl) hW ⟨by simp only; omega, by simp only; omega, by simp only; rw [opN_no (by omega) (by rw [← hatv]; exact hc4)]; exact hO⟩ (by simp only; omega)
   ·intro hc3
    replace hc3 := of_decide_eq_false hc3
    have hxe : x.1 = bad.length := by omega
    rw [hxe, opN_all] at hO
    have hol : x.2.2.1 = (openV y.h bad).length := by have := hO.1; rw [il_len] at this; omega
    have hypn := ((hN.rep.at (show Cl _ (((([_] ++ BP) ++ y.B) ++ B6) ++ x.2.2.2.2) _ from hW) ((((List.sublist_append_right _ y.B).trans (List.sublist_append_left _ B6)).trans (List.sublist_append_left _ x.2.2.2.2))))).pn
    have hyss := ((hN.rep.at (show Cl _ (((([_] ++ BP) ++ y.B) ++ B6) ++ x.2.2.2.2) _ from hW) ((((List.sublist_append_right _ y.B).trans (List.sublist_append_left _ B6)).trans (List.sublist_append_left _ x.2.2.2.2))))).len
    have hyq := ((hN.rep.at (show Cl _ (((([_] ++ BP) ++ y.B) ++ B6) ++ x.2.2.2.2) _ from hW) ((((List.sublist_append_right _ y.B).trans (List.sublist_append_left _ B6)).trans (List.sublist_append_left _ x.2.2.2.2))))).named.len
    refine l_end (n_then (c_seq ?_))
    refine c_false rfl ?_
    refine c_exit (x_then (x_then ?_))
    refine x_hit ?_
    refine n_then (c_seq (c_seq (c_reg ?_)))
    refine l_val (r_fieldAddr 1 Tryz.underlying69 rfl tyC67.size rfl rfl rfl) rfl rfl ?_
    refine dC hW 0 tyC67 ?_
    refine l_val (r_lenSlice Tryz.underlying67 rfl rfl) rfl rfl ?_
    refine aS ?_
    refine l_val (r_lenSlice Tryz.underlying27 rfl rfl) rfl rfl ?_
    refine l_val (r_gtrN rfl rfl rfl rfl) rfl rfl ?_
    refine l_split ?_ ?_
    ·intro hc5
     replace hc5 := of_decide_eq_true hc5
     omega
    ·intro hc5
     replace hc5 := of_decide_eq_false hc5
     refine aB ?_
     refine l_valG (r_fieldAddr 3 Tryz.underlying69 rfl tyC27.size rfl rfl rfl) (by kernel_rfl) rfl ?_
     refine dG hW 0 tyC27 ?_
     refine l_valG (r_lenSlice Tryz.underlying27 rfl rfl) (by kernel_rfl) rfl ?_
     refine l_valG (r_move (v := .slice _ _ _) rfl rfl) (by kernel_rfl) rfl ?_
     refine l_valG (r_lenSlice Tryz.underlying27 rfl rfl) (by kernel_rfl) rfl ?_
     refine l_valG (r_addN rfl rfl rfl (by omega)) (by kernel_rfl) rfl ?_
     refine l_valG (r_move (v := .slice _ _ _) rfl rfl) (by kernel_rfl) rfl ?_
     refine l_valG (r_lenSlice Tryz.underlying27 rfl rfl) (by kernel_rfl) rfl ?_
     refine l_valG (r_neqN rfl rfl rfl rfl) (by kernel_rfl) rfl ?_
     refine l_split ?_ ?_
     ·intro hc6
      replace hc6 := of_decide_eq_true hc6
      omega
     ·intro hc6
      replace hc6 := of_decide_eq_false hc6
      refine kB ?_
      refine l_end (n_then ?_)
      refine c_false rfl ?_
      refine c_skip (n_then (c_seq (c_seq (c_reg ?_))))
      refine aS ?_
      refine l_val (r_lenSlice Tryz.underlying27 rfl rfl) rfl rfl ?_
      refine l_val (r_eqlN (n := 0) rfl rfl rfl rfl) rfl rfl ?_
      refine l_split ?_ ?_
      ·intro hc7
       replace hc7 := of_decide_eq_true hc7
       have hlst := hI.last hbu hbr (List.eq_nil_of_length_eq_zero (by omega))
       refine l_end (n_then ?_)
       refine c_true rfl ?_
       refine c_seq (c_reg ?_)
       refine aB ?_
       refine aB ?_
       refine l_valG (r_fieldAddr 3 Tryz.underlying69 rfl tyC27.size rfl rfl rfl) (by kernel_rfl) rfl ?_
       refine dG hW 0 tyC27 ?_
       refine l_valG (r_move (v := .slice _ _ _) rfl rfl) (by kernel_rfl) rfl ?_
       refine l_callRG hW (GivesR.cast (g_is y.q.a y.q.n y.q.c y.h.named sP.a sP.n sP.c bad (by omega)) (congrArg Value.bool (decide_eq_true hlst))) en32 ⟨(hN.rep.at (show Cl _ (((([_] ++ BP) ++ y.B) ++ B6) ++ x.2.2.2.2) _ from hW) ((((List.sublist_append_right _ y.B).trans (List.sublist_append_left _ B6)).trans (List.sublist_append_left _ x.2.2.2.2)))).named, (nP.rep.at (show Cl _ (((([_] ++ BP) ++ y.B) ++ B6) ++ x.2.2.2.2) _ from hW) (((((List.sublist_append_right _ BP).trans (List.sublist_append_left _ y.B)).trans (List.sublist_append_left _ B6)).trans (List.sublist_append_left _ x.2.2.2.2))))⟩ (by kernel_rfl) rfl rfl rfl ?_
       intro W hW
       refine kB ?_
       refine aB ?_
       refine l_valG (r_fieldAddr 4 Tryz.underlying69 rfl tyC3.size rfl rfl rfl) (by kernel_rfl) rfl ?_
       refine dG hW 0 tyC3 ?_
       refine gI ?_
       refine l_valG (r_eql (b := true) rfl rfl rfl (decide_eq_true (by omega))) (by kernel_rfl) rfl ?_
       refine kB ?_
       refine bB ?_
       refine l_end (n_then (c_ret (r_then (r_block (r_then (r_then (r_block ?_)))))))
       refine ret_tmp (v := .bool true) rfl ?_ ⟨rfl, hW.below⟩
       rfl
      ·intro hc7
       replace hc7 := of_decide_eq_false hc7
       have hbef := hI.before hbu hbr (fun e => by rw [e] at hol; exact absurd hol (by simpa using hc7))
       rw [← hmst2] at hbef
       obtain ⟨b5, o5, ha5, hd5⟩ := ((hO.rep.at (show Cl _ (((([_] ++ BP) ++ y.B) ++ B6) ++ x.2.2.2.2) _ from hW) ((List.sublist_append_right _ x.2.2.2.2)))).ptr (by omega)
       refine l_end (n_then ?_)
       refine c_false rfl ?_
       refine c_skip (n_then (c_seq (c_seq (c_reg ?_))))
       refine aI ?_
       refine aI ?_
       refine l_val (r_geqN rfl rfl rfl rfl) rfl rfl ?_
       refine l_split ?_ ?_
       ·intro hc8
        replace hc8 := of_decide_eq_true hc8
        omega
       ·intro hc8
        replace hc8 := of_decide_eq_false hc8
        refine l_end (n_then ?_)
        refine c_false rfl ?_
        refine c_skip (n_then (c_seq (c_reg ?_)))
        refine bI ?_
        refine l_end (n_then (c_seq (c_seq (c_reg ?_))))
        refine aI ?_
        refine aS ?_
        refine l_val (r_lenSlice Tryz.underlying87 rfl rfl) rfl rfl ?_
        refine l_val (r_lssN rfl rfl rfl rfl) rfl rfl ?_
        refine l_split ?_ ?_
        ·intro hc9
         replace hc9 := of_decide_eq_true hc9
         obtain ⟨b7, o7, ha, hc7⟩ := hP.2.ptr (by omega)
         have hpk : (yt m y.k).toNat % x.2.2.1 < (openV y.h bad).length := by rw [← hol]; exact Nat.mod_lt _ (by omega)
         obtain ⟨hIe, hI2⟩ := hI.next hbr (by omega) hpk
         refine l_end (n_then ?_)
         refine c_true rfl ?_
         refine c_reg ?_
         refine aS ?_
         refine aI ?_
         refine l_val (r_indexAddrSl2 (n := y.k) Tryz.underlying87 tyC5.size rfl (congrArg (fun a => Value.slice a dn dc) ha) rfl (by omega)) rfl rfl ?_
         refine l_loadF hW tyC5 (v := .int .u8 ((yt m (y.k)).toNat : Int)) (hc7 (y.k) (by omega)) rfl rfl rfl rfl ?_
         refine l_val (r_conv_u8_i64 Tryz.underlying5 Tryz.underlying3 rfl rfl) rfl rfl ?_
         refine aS ?_
         refine l_val (r_lenSlice Tryz.underlying27 rfl rfl) rfl rfl ?_
         refine l_val (r_remN rfl rfl rfl (by omega)) rfl rfl ?_
         refine bI ?_
         refine l_end (n_then (c_seq ?_))
         refine c_regVB hW [] [.q, .q, .q, .q, .q, .mk 0, .tail, .tail, .tail, .tail, .tail, .tail] [⟨145, fun _ v Bs => ∃ a : Value, v = .tuple #[a, .int .i64 ((hear y.h (at_ (openV y.h bad) (((yt m y.k).toNat % x.2.2.1)))).2 : Int)] ∧ huX (hear y.h (at_ (openV y.h bad) (((yt m y.k).toNat % x.2.2.1)))).1 a Bs⟩] [[]] [5] [0, 0, 0, 6, 14, 31, 63, 127, 127, 0, 767, 2047] [0, 1, 2, 3, 4, 5] [6, 7, 8, 10, 11] 9 21 #[true, true, true, true, true, true, false, false, false, false, false, false] (by kernel_rfl) (by kernel_rfl) rfl (by kernel_rfl) rfl (al_agg tyZ69 rfl) ?_
         refine y_loadA 0 tyA69 rfl rfl rfl rfl rfl (by first | rfl | exact kc_len _ | exact kcf_len _ | exact boC_len _ _ | (simp; done)) (by decide) ?_
         refine yS ?_
         refine yI ?_
         refine y_val (r_indexAddrSl2 (n := ((yt m y.k).toNat % x.2.2.1)) Tryz.underlying27 tyC3.size rfl (congrArg (fun a => Value.slice a x.2.2.1 x.2.2.2.1) ha5) rfl (by omega)) rfl rfl ?_
         refine y_loadR tyC3 (v := .int .i64 (at_ (openV y.h bad) (((yt m y.k).toNat % x.2.2.1)))) (fun L2 w hs hC => by
          obtain ⟨b6, o6, ha6, hd6⟩ := (hO.rep.at hC (((List.sublist_append_right _ x.2.2.2.2)).trans hs.pre)).ptr (by omega)
          rw [ha5] at ha6
          simp only [Option.some.injEq, Addr.mk.injEq, and_true] at ha6
          obtain ⟨rfl, rfl⟩ := ha6
          exact hd6 (((yt m y.k).toNat % x.2.2.1)) hpk) rfl rfl rfl rfl ?_
         have hn7 := (hN.rep.at (show Cl _ (((([_] ++ BP) ++ y.B) ++ B6) ++ x.2.2.2.2) _ from hW) ((((List.sublist_append_right _ y.B).trans (List.sublist_append_left _ B6)).trans (List.sublist_append_left _ x.2.2.2.2))))
         refine y_callX 0 (g_Hear y.h y.p.a y.p.n y.p.c y.r y.q y.ss (at_ (openV y.h bad) (((yt m y.k).toNat % x.2.2.1))) hsm (hun_fit hn7 (by omega))) en29 rfl rfl (fun L2 w hs hC => hN.rep.at hC (((((List.sublist_append_right _ y.B).trans (List.sublist_append_left _ B6)).trans (List.sublist_append_left _ x.2.2.2.2))).trans hs.pre)) rfl rfl ?_
         refine y_tail ?_
         refine y_made ?_
         rintro _ B9 ⟨_, rfl, p9, r9, q9, ss9, rfl, n9⟩
         rw [hIe]
         obtain ⟨h9, hh9⟩ : ∃ h9, h9 = (hear y.h (at_ (openV y.h bad) (((yt m y.k).toNat % x.2.2.1)))).1 := ⟨_, rfl⟩
         rw [← hh9] at hI2 n9 ⊢
         replace n9 : NewHu h9 p9 r9 q9 ss9 B9 := n9
         refine ⟨fun g2 W hW => ?_, fun W hW => ?_⟩
         ·rw [put_st]
          replace hW := pickQ hW
          refine aw1 6 (by kernel_rfl) rfl ?_
          refine l_val (r_move (v := .tuple _) rfl rfl) rfl rfl ?_
          refine l_end (n_A ?_)
          refine awt 7 (by kernel_rfl) (by kernel_rfl) (by kernel_rfl) rfl rfl (r_extract (v := .agg _) rfl rfl rfl) (by kernel_rfl) (fun _ _ _ h => h) ?_
          refine awt 8 (by kernel_rfl) (by kernel_rfl) (by kernel_rfl) rfl rfl (r_extract (v := .int _ _) rfl rfl rfl) (by kernel_rfl) (fun _ _ _ h => h) ?_
          refine aw1 10 (by kernel_rfl) rfl ?_
          refine sA hW 0 tyA69 ?_
          intro W hW
          refine l_end (n_A ?_)
          refine aw1 11 (by kernel_rfl) rfl ?_
          refine bI ?_
          refine l_end (n_A ?_)
          refine aw0 (by kernel_rfl) ?_
          refine n_then (c_seq (c_seq (c_reg ?_)))
          refine aI ?_
          refine l_val (r_neq (b := false) rfl rfl rfl (by decide)) rfl rfl ?_
          refine l_end (n_then ?_)
          refine c_false rfl ?_
          refine c_skip (n_then (c_reg ?_))
          refine dA hW 0 tyA69 ?_
          refine sA hW 1 tyA69 ?_
          intro W hW
          refine l_end (n_block (n_then (c_reg ?_)))
          refine aI ?_
          refine l_val (r_addN (n := 1) rfl rfl rfl (by omega)) rfl rfl ?_
          refine bI ?_
          refine l_end (n_then ?_)
          exact loop_next (⟨h9, p9, r9, q9, ss9, y.k + 1, B9⟩ : HS) (by kernel_rfl) (pickNm hW) ⟨hI2, n9⟩ (by simp only; omega)
         replace hW := hW.perm List.perm_append_comm
         refine awt 6 (by kernel_rfl) (by kernel_rfl) (by kernel_rfl) rfl rfl (r_move (v := .tuple _) rfl rfl) (by kernel_rfl) (fun _ _ _ h => h) ?_
         refine awt 7 (by kernel_rfl) (by kernel_rfl) (by kernel_rfl) rfl rfl (r_extract (v := .agg _) rfl rfl rfl) (by kernel_rfl) (fun _ _ _ h => h) ?_
         refine awt 8 (by kernel_rfl) (by kernel_rfl) (by kernel_rfl) rfl rfl (r_extract (v := .int _ _) rfl rfl rfl) (by kernel_rfl) (fun _ _ _ h => h) ?_
         refine aw1 9 (by kernel_rfl) rfl ?_
         refine l_alloc hW tyZ69 rfl rfl rfl ?_
         intro g3 W hW
         refine l_end (n_A ?_)
         refine aw1 10 (by kernel_rfl) rfl ?_
         refine sA hW 0 tyA69 ?_
         intro W hW
         refine l_end (n_A ?_)
         refine aw1 11 (by kernel_rfl) rfl ?_
         refine bI ?_
         refine l_end (n_A ?_)
         refine aw0 (by kernel_rfl) ?_
         refine n_then (c_seq (c_seq (c_reg ?_)))
         refine aI ?_
         refine l_val (r_neq (b := false) rfl rfl rfl (by decide)) rfl rfl ?_
         refine l_end (n_then ?_)
         refine c_false rfl ?_
         refine c_skip (n_then (c_reg ?_))
         refine dA hW 0 tyA69 ?_
         refine sA hW 1 tyA69 ?_
         intro W hW
         refine l_end (n_block (n_then (c_reg ?_)))
         refine aI ?_
         refine l_val (r_addN (n := 1) rfl rfl rfl (by omega)) rfl rfl ?_
         refine bI ?_
         refine l_end (n_then ?_)
         exact loop_next (⟨h9, p9, r9, q9, ss9, y.k + 1, B9⟩ : HS) (by kernel_rfl) (pickNm hW) ⟨hI2, n9⟩ (by simp only; omega)
        ·intro hc9
         replace hc9 := of_decide_eq_false hc9
         have hpk : 0 < (openV y.h bad).length := by rw [← hol]; omega
         obtain ⟨hIe, hI2⟩ := hI.next hbr (by omega) hpk
         refine l_end (n_then ?_)
         refine c_false rfl ?_
         refine c_skip (n_then (c_seq ?_))
         refine c_regVB hW [] [.q, .q, .q, .q, .q, .mk 0, .tail, .tail, .tail, .tail, .tail, .tail] [⟨145, fun _ v Bs => ∃ a : Value, v = .tuple #[a, .int .i64 ((hear y.h (at_ (openV y.h bad) (0))).2 : Int)] ∧ huX (hear y.h (at_ (openV y.h bad) (0))).1 a Bs⟩] [[]] [5] [0, 0, 0, 6, 14, 31, 63, 127, 127, 0, 767, 2047] [0, 1, 2, 3, 4, 5] [6, 7, 8, 10, 11] 9 21 #[true, true, true, true, true, true, false, false, false, false, false, false] (by kernel_rfl) (by kernel_rfl) rfl (by kernel_rfl) rfl (al_agg tyZ69 rfl) ?_
         refine y_loadA 0 tyA69 rfl rfl rfl rfl rfl (by first | rfl | exact kc_len _ | exact kcf_len _ | exact boC_len _ _ | (simp; done)) (by decide) ?_
         refine yS ?_
         refine yI ?_
         refine y_val (r_indexAddrSl2 (n := 0) Tryz.underlying27 tyC3.size rfl (congrArg (fun a => Value.slice a x.2.2.1 x.2.2.2.1) ha5) rfl (by omega)) rfl rfl ?_
         refine y_loadR tyC3 (v := .int .i64 (at_ (openV y.h bad) (0))) (fun L2 w hs hC => by
          obtain ⟨b6, o6, ha6, hd6⟩ := (hO.rep.at hC (((List.sublist_append_right _ x.2.2.2.2)).trans hs.pre)).ptr (by omega)
          rw [ha5] at ha6
          simp only [Option.some.injEq, Addr.mk.injEq, and_true] at ha6
          obtain ⟨rfl, rfl⟩ := ha6
          exact hd6 (0) hpk) rfl rfl rfl rfl ?_
         have hn7 := (hN.rep.at (show Cl _ (((([_] ++ BP) ++ y.B) ++ B6) ++ x.2.2.2.2) _ from hW) ((((List.sublist_append_right _ y.B).trans (List.sublist_append_left _ B6)).trans (List.sublist_append_left _ x.2.2.2.2))))
         refine y_callX 0 (g_Hear y.h y.p.a y.p.n y.p.c y.r y.q y.ss (at_ (openV y.h bad) (0)) hsm (hun_fit hn7 (by omega))) en29 rfl rfl (fun L2 w hs hC => hN.rep.at hC (((((List.sublist_append_right _ y.B).trans (List.sublist_append_left _ B6)).trans (List.sublist_append_left _ x.2.2.2.2))).trans hs.pre)) rfl rfl ?_
         refine y_tail ?_
         refine y_made ?_
         rintro _ B9 ⟨_, rfl, p9, r9, q9, ss9, rfl, n9⟩
         rw [hIe]
         obtain ⟨h9, hh9⟩ : ∃ h9, h9 = (hear y.h (at_ (openV y.h bad) (0))).1 := ⟨_, rfl⟩
         rw [← hh9] at hI2 n9 ⊢
         replace n9 : NewHu h9 p9 r9 q9 ss9 B9 := n9
         refine ⟨fun g4 W hW => ?_, fun W hW => ?_⟩
         ·rw [put_st]
          replace hW := pickQ hW
          refine aw1 6 (by kernel_rfl) rfl ?_
          refine l_val (r_move (v := .tuple _) rfl rfl) rfl rfl ?_
          refine l_end (n_A ?_)
          refine awt 7 (by kernel_rfl) (by kernel_rfl) (by kernel_rfl) rfl rfl (r_extract (v := .agg _) rfl rfl rfl) (by kernel_rfl) (fun _ _ _ h => h) ?_
          refine awt 8 (by kernel_rfl) (by kernel_rfl) (by kernel_rfl) rfl rfl (r_extract (v := .int _ _) rfl rfl rfl) (by kernel_rfl) (fun _ _ _ h => h) ?_
          refine aw1 10 (by kernel_rfl) rfl ?_
          refine sA hW 0 tyA69 ?_
          intro W hW
          refine l_end (n_A ?_)
          refine aw1 11 (by kernel_rfl) rfl ?_
          refine bI ?_
          refine l_end (n_A ?_)
          refine aw0 (by kernel_rfl) ?_
          refine n_then (c_seq (c_seq (c_reg ?_)))
          refine aI ?_
          refine l_val (r_neq (b := false) rfl rfl rfl (by decide)) rfl rfl ?_
          refine l_end (n_then ?_)
          refine c_false rfl ?_
          refine c_skip (n_then (c_reg ?_))
          refine dA hW 0 tyA69 ?_
          refine sA hW 1 tyA69 ?_
          intro W hW
          refine l_end (n_block (n_then (c_reg ?_)))
          refine aI ?_
          refine l_val (r_addN (n := 1) rfl rfl rfl (by omega)) rfl rfl ?_
          refine bI ?_
          refine l_end (n_then ?_)
          exact loop_next (⟨h9, p9, r9, q9, ss9, y.k + 1, B9⟩ : HS) (by kernel_rfl) (pickNm hW) ⟨hI2, n9⟩ (by simp only; omega)
         replace hW := hW.perm List.perm_append_comm
         refine awt 6 (by kernel_rfl) (by kernel_rfl) (by kernel_rfl) rfl rfl (r_move (v := .tuple _) rfl rfl) (by kernel_rfl) (fun _ _ _ h => h) ?_
         refine awt 7 (by kernel_rfl) (by kernel_rfl) (by kernel_rfl) rfl rfl (r_extract (v := .agg _) rfl rfl rfl) (by kernel_rfl) (fun _ _ _ h => h) ?_
         refine awt 8 (by kernel_rfl) (by kernel_rfl) (by kernel_rfl) rfl rfl (r_extract (v := .int _ _) rfl rfl rfl) (by kernel_rfl) (fun _ _ _ h => h) ?_
         refine aw1 9 (by kernel_rfl) rfl ?_
         refine l_alloc hW tyZ69 rfl rfl rfl ?_
         intro g5 W hW
         refine l_end (n_A ?_)
         refine aw1 10 (by kernel_rfl) rfl ?_
         refine sA hW 0 tyA69 ?_
         intro W hW
         refine l_end (n_A ?_)
         refine aw1 11 (by kernel_rfl) rfl ?_
         refine bI ?_
         refine l_end (n_A ?_)
         refine aw0 (by kernel_rfl) ?_
         refine n_then (c_seq (c_seq (c_reg ?_)))
         refine aI ?_
         refine l_val (r_neq (b := false) rfl rfl rfl (by decide)) rfl rfl ?_
         refine l_end (n_then ?_)
         refine c_false rfl ?_
         refine c_skip (n_then (c_reg ?_))
         refine dA hW 0 tyA69 ?_
         refine sA hW 1 tyA69 ?_
         intro W hW
         refine l_end (n_block (n_then (c_reg ?_)))
         refine aI ?_
         refine l_val (r_addN (n := 1) rfl rfl rfl (by omega)) rfl rfl ?_
         refine bI ?_
         refine l_end (n_then ?_)
         exact loop_next (⟨h9, p9, r9, q9, ss9, y.k + 1, B9⟩ : HS) (by kernel_rfl) (pickNm hW) ⟨hI2, n9⟩ (by simp only; omega)

end Go.Proofs.YtoegpalacppllaaGreat

/- For every number of users up to 64, at most 64 pirates and every list of choices: a hunt in which each variant that is heard is one that a pirate gets who was not named names pirates alone, has at most as many pairs as there are other pirates, and has named all of them after at most Rounds rounds; no conditions. -/
namespace Go.Proofs.YtoegpalacppllaaGreat
open Go.RowKit Go.ChangeShapes Go.WideShapes Pl Tr Hn

theorem traceNames_calls (H : Type) (enc : TypeId × Value → H) (W : World) (base : Nat) (args : Array Value) (ds : List (DataW H)) (ps : List MemPlace) (h : Opened enc Tryz.prog W Tryz.f8 base args ds ps) :
    Calls Tryz.prog 8 args W fun e w' => e = .returned (.bool true) ∧ Below W.heap.size W w' := by
  have r0 := h.args (ts := [5, 87, 87]) (by kernel_rfl)
  generalize hl : args.toList = l0 at r0
  obtain ⟨_, l1, rfl, a0, r1⟩ := r0.cons
  obtain ⟨u, rfl⟩ := a0.u8 Tryz.underlying5
  obtain ⟨_, l2, rfl, a1, r2⟩ := r1.cons
  obtain ⟨l_a, l_n, l_c, l, rfl, l_len, l_rd, l_le, l_max, l_nil⟩ := a1.bytes Tryz.underlying87 Tryz.underlying5 (by kernel_rfl) (by kernel_rfl)
  obtain ⟨_, l3, rfl, a2, r3⟩ := r2.cons
  obtain ⟨m_a, m_n, m_c, m, rfl, m_len, m_rd, m_le, m_max, m_nil⟩ := a2.bytes Tryz.underlying87 Tryz.underlying5 (by kernel_rfl) (by kernel_rfl)
  obtain rfl := r3.nil
  rw [arr_of hl]
  exact g_TraceNames u l_a l_n l_c l m_a m_n m_c m W ⟨⟨⟨l_le, fun h => (l_nil h).2⟩, l_len.symm, l_rd⟩, ⟨⟨m_le, fun h => (m_nil h).2⟩, m_len.symm, m_rd⟩⟩
set_option maxRecDepth 100000 in
theorem traceNames_closed : joinedFacts Tryz.pinned.checked.prog 8 Tryz.f8 Rows.traceNamesSpec Rows.traceNamesRow = true := by kernel_rfl
set_option maxRecDepth 100000 in
theorem traceNames_holds : Rows.TraceNamesSaid :=
  OpenClaim.holds_of_wide 8 Tryz.f8 rfl rfl rfl rfl rfl rfl rfl ⟨rfl, rfl, rfl, rfl, rfl⟩ rfl rfl rfl rfl rfl (by kernel_rfl) Tryz.func8 traceNames_closed
    (of_decide_eq_true (by kernel_rfl)) (by unfold Func.isWrapper; first | (rw [if_pos (by decide +kernel)]; kernel_rfl) | (rw [if_neg (by decide +kernel)]; exact ⟨rfl, rfl⟩))
    (fun os started H enc _ => law_lifted (C := Tryz.checked) (s := Rows.traceNamesSpec) (conds := Rows.traceNamesRow.domain) 4 (by kernel_rfl) (by kernel_rfl) Tryz.func8 (by kernel_rfl) (by kernel_rfl) rfl
      (fun H ds hd => match ds, hd with | [_, _, _], _ => rfl) (by kernel_rfl) Tryz.underlying4 traceNames_calls os started H enc
      (ChangeSpec.witness6 (enc := enc) (C := Tryz.checked) false ⟨#[], #[.int .u8 0, .slice none 0 0, .slice none 0 0], []⟩ 8 (by kernel_rfl) (by kernel_rfl) (by kernel_rfl) (by kernel_rfl)))
#print axioms traceNames_holds
end Go.Proofs.YtoegpalacppllaaGreat

