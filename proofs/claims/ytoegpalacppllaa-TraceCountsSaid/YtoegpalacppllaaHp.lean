/- Plain laws of hunts: what the functions on hunts compute, over lists of numbers. No program is in sight here. -/
namespace Go.Proofs.Ytoegpalacppllaa.Hn

abbrev LI := List Int
/-- a hunt; ps: Left and Right of each pair, one after the other -/
structure Hu where
  users : Int
  ps : List LI
  rest : LI
  named : LI
  rounds : Int
def groups (h : Hu) : List LI := h.rest :: h.named :: h.ps
def at_ (l : LI) (i : Nat) : Int := l.getD i 0

/-! ### lists without repetitions -/
theorem len_le_of_sub : ∀ (F G : LI), F.Nodup → (∀ x ∈ F, x ∈ G) → F.length ≤ G.length
  | [], _, _, _ => Nat.zero_le _
  | x :: F, G, hn, hs => by
    have hx : x ∈ G := hs x (by simp)
    have hn' := List.nodup_cons.1 hn
    have := len_le_of_sub F (G.erase x) hn'.2 fun y hy => (List.mem_erase_of_ne (fun (e : y = x) => hn'.1 (by rw [← e]; exact hy))).2 (hs y (by simp [hy]))
    rw [List.length_erase_of_mem hx] at this
    have h0 : 0 < G.length := List.length_pos_of_mem hx
    simp; omega
theorem sub_of_len {F G : LI} (hn : F.Nodup) (hs : ∀ x ∈ F, x ∈ G) (hl : G.length ≤ F.length) : ∀ y ∈ G, y ∈ F := fun y hy => by
  apply Classical.byContradiction
  intro hno
  have := len_le_of_sub F (G.erase y) hn fun x hx => (List.mem_erase_of_ne (fun e => hno (by rw [← e]; exact hx))).2 (hs x hx)
  rw [List.length_erase_of_mem hy] at this
  have h0 : 0 < G.length := List.length_pos_of_mem hy
  omega
theorem nodup_of_erase : ∀ {F : LI}, (∀ x ∈ F, x ∉ F.erase x) → F.Nodup
  | [], _ => List.nodup_nil
  | x :: F, h => by
    have h0 : x ∉ F := by have := h x (by simp); simpa using this
    refine List.nodup_cons.2 ⟨h0, nodup_of_erase fun y hy hy' => h y (by simp [hy]) ?_⟩
    have hne : x ≠ y := fun e => h0 (e ▸ hy)
    have he : ¬ ((x == y) = true) := by simpa using hne
    rw [List.erase_cons_tail he]
    simp [hy']
theorem nodup_of_cover {F G : LI} (hn : G.Nodup) (hs : ∀ y ∈ G, y ∈ F) (hl : F.length ≤ G.length) : F.Nodup := by
  refine nodup_of_erase fun x hx hx' => ?_
  have := len_le_of_sub G (F.erase x) hn fun y hy => by
    by_cases e : y = x
    · rw [e]; exact hx'
    · exact (List.mem_erase_of_ne e).2 (hs y hy)
  rw [List.length_erase_of_mem hx] at this
  have h0 : 0 < F.length := List.length_pos_of_mem hx
  omega
/-- the users, as numbers -/
def rangeI (n : Nat) : LI := (List.range n).map fun (u : Nat) => (u : Int)
theorem mem_rangeI {n : Nat} {x : Int} : x ∈ rangeI n ↔ 0 ≤ x ∧ x < (n : Int) := by
  simp only [rangeI, List.mem_map, List.mem_range]
  constructor
  · rintro ⟨u, hu, rfl⟩; omega
  · rintro ⟨h1, h2⟩; exact ⟨x.toNat, by omega, by omega⟩
theorem len_rangeI (n : Nat) : (rangeI n).length = n := by simp [rangeI]
theorem nodup_rangeI (n : Nat) : (rangeI n).Nodup := by
  rw [rangeI, List.nodup_iff_pairwise_ne, List.pairwise_map]
  exact (List.nodup_iff_pairwise_ne.1 List.nodup_range).imp fun h e => h (by omega)

/-! ### whether a hunt is valid -/
def okU (l : LI) (most : Int) (i : Nat) : Bool := decide (0 ≤ at_ l i) && decide (at_ l i < most) && (decide (i = 0) || decide (at_ l (i - 1) < at_ l i))
def usersB (l : LI) (most : Int) : Bool := (List.range l.length).all (okU l most)
def grpB (most : Int) (l : LI) (e : Bool) : Bool := usersB l most && (e || !l.isEmpty)
def coverB (gs : List LI) (n : Nat) : Bool := (List.range n).all fun (u : Nat) => gs.any fun g => g.contains (u : Int)
def sumL : List LI → Nat
  | [] => 0
  | l :: gs => l.length + sumL gs
def boundsB (h : Hu) : Bool := decide (1 ≤ h.users) && decide (h.users ≤ 64) && decide (0 ≤ h.rounds) && decide (h.rounds ≤ 100000) && decide (h.ps.length ≤ 128)
def groupsB (h : Hu) : Bool := grpB h.users h.rest true && grpB h.users h.named true && h.ps.all fun l => grpB h.users l false
/-- by the reference -/
def validB (h : Hu) : Bool := boundsB h && groupsB h && coverB (groups h) h.users.toNat && decide ((sumL (groups h) : Int) = h.users)

def okF (most : Int) (pre l : LI) (i : Nat) : Bool := decide (0 ≤ at_ l i) && decide (at_ l i < most) && !(pre ++ l.take i).contains (at_ l i) && (decide (i = 0) || !decide (at_ l i < at_ l (i - 1)))
def fitB (most : Int) (pre l : LI) (e : Bool) : Bool := (List.range l.length).all (okF most pre l) && (e || !l.isEmpty)
def fitsB (most : Int) : LI → List LI → Bool
  | _, [] => true
  | pre, l :: gs => fitB most pre l false && fitsB most (pre ++ l) gs
/-- by the program -/
def progB (h : Hu) : Bool := boundsB h && fitB h.users [] h.rest true && fitB h.users h.rest h.named true && fitsB h.users (h.rest ++ h.named) h.ps && decide (h.users ≤ (sumL (groups h) : Int))

theorem flat_len : ∀ gs : List LI, gs.flatten.length = sumL gs
  | [] => rfl
  | l :: gs => by simp [sumL, flat_len gs]
theorem at_get {l : LI} {i : Nat} (h : i < l.length) : l[i]? = some (at_ l i) := by simp [at_, h]
theorem at_mem {l : LI} {i : Nat} (h : i < l.length) : at_ l i ∈ l := List.mem_of_getElem? (at_get h)
theorem mem_at {l : LI} {x : Int} (h : x ∈ l) : ∃ i, i < l.length ∧ at_ l i = x := by
  obtain ⟨i, hi⟩ := List.getElem?_of_mem h
  have hlt := (List.getElem?_eq_some_iff.1 hi).1
  exact ⟨i, hlt, by rw [at_get hlt] at hi; injection hi⟩
theorem at_take {l : LI} {i j : Nat} (h : j < i) (hj : j < l.length) : at_ l j ∈ l.take i := by
  refine List.mem_of_getElem? (i := j) ?_
  rw [List.getElem?_take, if_pos h]; exact at_get hj
theorem take_at {l : LI} {i : Nat} {x : Int} (h : x ∈ l.take i) : ∃ j, j < i ∧ j < l.length ∧ at_ l j = x := by
  obtain ⟨j, hj⟩ := List.getElem?_of_mem h
  rw [List.getElem?_take] at hj
  split at hj
  · rename_i hji
    have hlt := (List.getElem?_eq_some_iff.1 hj).1
    exact ⟨j, hji, hlt, by rw [at_get hlt] at hj; injection hj⟩
  · cases hj

theorem usersB_iff {l : LI} {n : Int} : usersB l n = true ↔ ∀ i, i < l.length → 0 ≤ at_ l i ∧ at_ l i < n ∧ (i = 0 ∨ at_ l (i - 1) < at_ l i) := by
  simp only [usersB, List.all_eq_true, List.mem_range, okU, Bool.and_eq_true, Bool.or_eq_true, decide_eq_true_eq, and_assoc]
theorem fitB_iff {l pre : LI} {n : Int} {e : Bool} : fitB n pre l e = true ↔ (∀ i, i < l.length → 0 ≤ at_ l i ∧ at_ l i < n ∧ at_ l i ∉ pre ++ l.take i ∧ (i = 0 ∨ at_ l (i - 1) ≤ at_ l i)) ∧ (e = true ∨ l ≠ []) := by
  simp only [fitB, List.all_eq_true, List.mem_range, okF, Bool.and_eq_true, Bool.or_eq_true, decide_eq_true_eq, and_assoc, Bool.not_eq_true', Int.not_lt, List.contains_iff_mem, ← Bool.not_eq_true, List.isEmpty_iff, ne_eq]
theorem users_lt {l : LI} {n : Int} (h : usersB l n = true) : ∀ i j, i < j → j < l.length → at_ l i < at_ l j := by
  intro i j hij
  induction j with
  | zero => omega
  | succ j ih =>
    intro hj
    have h1 := (usersB_iff.1 h (j + 1) hj).2.2
    have h2 : at_ l j < at_ l (j + 1) := by rcases h1 with h1 | h1; · omega
                                            · simpa using h1
    rcases Nat.lt_or_ge i j with h3 | h3
    · have := ih h3 (by omega); omega
    · obtain rfl : i = j := by omega
      exact h2
theorem users_nodup {l : LI} {n : Int} (h : usersB l n = true) : l.Nodup := by
  rw [List.nodup_iff_pairwise_ne, List.pairwise_iff_getElem]
  intro i j hi hj hij e
  have := users_lt h i j hij hj
  simp [at_, hi, hj] at this
  omega
theorem users_mem {l : LI} {n : Int} (h : usersB l n = true) {x : Int} (hx : x ∈ l) : 0 ≤ x ∧ x < n := by
  obtain ⟨i, hi, rfl⟩ := mem_at hx
  exact ⟨(usersB_iff.1 h i hi).1, (usersB_iff.1 h i hi).2.1⟩
/-- one group, behind others -/
theorem fit_of {l pre : LI} {n : Int} {e : Bool} (h : grpB n l e = true) (hn : (pre ++ l).Nodup) : fitB n pre l e = true := by
  simp only [grpB, Bool.and_eq_true, Bool.or_eq_true, Bool.not_eq_true', List.isEmpty_eq_false_iff] at h
  refine fitB_iff.2 ⟨fun i hi => ?_, h.2⟩
  obtain ⟨h1, h2, h3⟩ := usersB_iff.1 h.1 i hi
  refine ⟨h1, h2, fun hm => ?_, h3.imp id fun h => by omega⟩
  have hn' := List.nodup_append.1 hn
  rcases List.mem_append.1 hm with hm | hm
  · exact hn'.2.2 _ hm _ (at_mem hi) rfl
  · obtain ⟨j, hj, hjl, he⟩ := take_at hm
    have := users_lt h.1 j i hj hi
    omega
theorem of_fit {l pre : LI} {n : Int} {e : Bool} (h : fitB n pre l e = true) (hp : pre.Nodup) : grpB n l e = true ∧ (pre ++ l).Nodup := by
  obtain ⟨h1, h2⟩ := fitB_iff.1 h
  have hu : usersB l n = true := usersB_iff.2 fun i hi => by
    obtain ⟨a, b, c, d⟩ := h1 i hi
    refine ⟨a, b, ?_⟩
    rcases d with d | d
    · exact .inl d
    · by_cases h0 : i = 0
      · exact .inl h0
      · refine .inr ?_
        have : at_ l (i - 1) ≠ at_ l i := fun e => c (List.mem_append_right _ (e ▸ at_take (by omega) (by omega)))
        omega
  refine ⟨by simp only [grpB, Bool.and_eq_true, Bool.or_eq_true, Bool.not_eq_true', List.isEmpty_eq_false_iff]; exact ⟨hu, h2⟩, ?_⟩
  refine List.nodup_append.2 ⟨hp, users_nodup hu, fun x hx y hy e => ?_⟩
  obtain ⟨i, hi, rfl⟩ := mem_at hy
  exact (h1 i hi).2.2.1 (List.mem_append_left _ (e ▸ hx))
theorem fits_of {n : Int} : ∀ (gs : List LI) (pre : LI), (∀ l ∈ gs, grpB n l false = true) → (pre ++ gs.flatten).Nodup → fitsB n pre gs = true
  | [], _, _, _ => rfl
  | l :: gs, pre, h, hn => by
    rw [List.flatten_cons, ← List.append_assoc] at hn
    rw [fitsB, Bool.and_eq_true]
    exact ⟨fit_of (h l (by simp)) (List.nodup_append.1 hn).1, fits_of gs (pre ++ l) (fun x hx => h x (by simp [hx])) hn⟩
theorem of_fits {n : Int} : ∀ (gs : List LI) (pre : LI), pre.Nodup → fitsB n pre gs = true → (∀ l ∈ gs, grpB n l false = true) ∧ (pre ++ gs.flatten).Nodup
  | [], pre, hp, _ => ⟨by simp, by simpa using hp⟩
  | l :: gs, pre, hp, h => by
    rw [fitsB, Bool.and_eq_true] at h
    obtain ⟨h1, h2⟩ := of_fit h.1 hp
    obtain ⟨h3, h4⟩ := of_fits gs (pre ++ l) h2 h.2
    refine ⟨fun x hx => ?_, by rw [List.flatten_cons, ← List.append_assoc]; exact h4⟩
    rcases List.mem_cons.1 hx with rfl | hx
    · exact h1
    · exact h3 x hx
theorem coverB_iff {gs : List LI} {n : Nat} : coverB gs n = true ↔ ∀ x ∈ rangeI n, x ∈ gs.flatten := by
  simp only [coverB, List.all_eq_true, List.mem_range, List.any_eq_true, List.contains_iff_mem, List.mem_flatten]
  constructor
  · intro h x hx
    obtain ⟨h1, h2⟩ := mem_rangeI.1 hx
    obtain ⟨g, hg, hm⟩ := h x.toNat (by omega)
    exact ⟨g, hg, by rwa [show ((x.toNat : Nat) : Int) = x by omega] at hm⟩
  · intro h u hu
    exact h u (mem_rangeI.2 ⟨by omega, by omega⟩)
theorem grp_mem {n : Int} {l : LI} {e : Bool} (h : grpB n l e = true) {x : Int} (hx : x ∈ l) : 0 ≤ x ∧ x < n := by
  simp only [grpB, Bool.and_eq_true] at h
  exact users_mem h.1 hx
theorem groupsB_iff {h : Hu} : groupsB h = true ↔ grpB h.users h.rest true = true ∧ grpB h.users h.named true = true ∧ ∀ l ∈ h.ps, grpB h.users l false = true := by
  simp only [groupsB, Bool.and_eq_true, List.all_eq_true, and_assoc]
theorem flat_mem {h : Hu} (hg : groupsB h = true) {x : Int} (hx : x ∈ (groups h).flatten) : x ∈ rangeI h.users.toNat := by
  obtain ⟨h1, h2, h3⟩ := groupsB_iff.1 hg
  obtain ⟨l, hl, hx⟩ := List.mem_flatten.1 hx
  have : 0 ≤ x ∧ x < h.users := by
    simp only [groups, List.mem_cons] at hl
    rcases hl with rfl | rfl | hl
    · exact grp_mem h1 hx
    · exact grp_mem h2 hx
    · exact grp_mem (h3 l hl) hx
  exact mem_rangeI.2 ⟨this.1, by omega⟩
theorem prog_valid (h : Hu) : progB h = validB h := by
  rw [Bool.eq_iff_iff]
  simp only [progB, validB, Bool.and_eq_true, decide_eq_true_eq]
  constructor
  · rintro ⟨⟨⟨⟨hb, h1⟩, h2⟩, h3⟩, h4⟩
    obtain ⟨g1, n1⟩ := of_fit h1 List.nodup_nil
    rw [List.nil_append] at n1
    obtain ⟨g2, n2⟩ := of_fit h2 n1
    obtain ⟨g3, n3⟩ := of_fits h.ps _ n2 h3
    have hg : groupsB h = true := groupsB_iff.2 ⟨g1, g2, g3⟩
    have hF : (groups h).flatten.Nodup := by simpa [groups, List.append_assoc] using n3
    have hs := fun x hx => flat_mem (x := x) hg hx
    have hl := len_le_of_sub _ _ hF hs
    rw [flat_len, len_rangeI] at hl
    have hu : 1 ≤ h.users := by simp only [boundsB, Bool.and_eq_true, decide_eq_true_eq] at hb; omega
    exact ⟨⟨⟨hb, hg⟩, coverB_iff.2 (sub_of_len hF hs (by rw [flat_len, len_rangeI]; omega))⟩, by omega⟩
  · rintro ⟨⟨⟨hb, hg⟩, hc⟩, hs⟩
    have hF : (groups h).flatten.Nodup := nodup_of_cover (nodup_rangeI _) (coverB_iff.1 hc) (by rw [flat_len, len_rangeI]; omega)
    obtain ⟨g1, g2, g3⟩ := groupsB_iff.1 hg
    have hF' : (h.rest ++ h.named ++ h.ps.flatten).Nodup := by simpa [groups, List.append_assoc] using hF
    refine ⟨⟨⟨⟨hb, fit_of g1 ?_⟩, fit_of g2 (List.nodup_append.1 hF').1⟩, fits_of h.ps _ g3 hF'⟩, by omega⟩
    simpa using (List.nodup_append.1 (List.nodup_append.1 hF').1).1

/-- what a valid hunt is like -/
structure Valid (h : Hu) : Prop where
  u1 : 1 ≤ h.users
  u2 : h.users ≤ 64
  r1 : 0 ≤ h.rounds
  r2 : h.rounds ≤ 100000
  p : h.ps.length ≤ 128
  rest : usersB h.rest h.users = true
  named : usersB h.named h.users = true
  ps : ∀ l ∈ h.ps, usersB l h.users = true ∧ l ≠ []
  nodup : (h.rest ++ h.named ++ h.ps.flatten).Nodup
  cover : ∀ x, 0 ≤ x → x < h.users → x ∈ h.rest ∨ x ∈ h.named ∨ ∃ l ∈ h.ps, x ∈ l
  sum : (sumL (groups h) : Int) = h.users
theorem valid_iff (h : Hu) : validB h = true ↔ Valid h := by
  simp only [validB, boundsB, Bool.and_eq_true, decide_eq_true_eq]
  constructor
  · rintro ⟨⟨⟨⟨⟨⟨⟨u1, u2⟩, r1⟩, r2⟩, p⟩, hg⟩, hc⟩, hs⟩
    have hF : (groups h).flatten.Nodup := nodup_of_cover (nodup_rangeI _) (coverB_iff.1 hc) (by rw [flat_len, len_rangeI]; omega)
    obtain ⟨g1, g2, g3⟩ := groupsB_iff.1 hg
    simp only [grpB, Bool.and_eq_true, Bool.or_eq_true, Bool.not_eq_true', List.isEmpty_eq_false_iff] at g1 g2 g3
    refine ⟨u1, u2, r1, r2, p, g1.1, g2.1, fun l hl => ⟨(g3 l hl).1, by simpa using (g3 l hl).2⟩, by simpa [groups, List.append_assoc] using hF, fun x h0 h1 => ?_, hs⟩
    have := coverB_iff.1 hc x (mem_rangeI.2 ⟨h0, by omega⟩)
    simpa [groups, List.mem_flatten] using this
  · intro v
    refine ⟨⟨⟨⟨⟨⟨⟨v.u1, v.u2⟩, v.r1⟩, v.r2⟩, v.p⟩, groupsB_iff.2 ⟨?_, ?_, fun l hl => ?_⟩⟩, coverB_iff.2 fun x hx => ?_⟩, v.sum⟩
    · simp [grpB, v.rest]
    · simp [grpB, v.named]
    · simp [grpB, (v.ps l hl).1, (v.ps l hl).2]
    · obtain ⟨h0, h1⟩ := mem_rangeI.1 hx
      have := v.cover x h0 (by omega)
      simpa [groups, List.mem_flatten] using this
end Go.Proofs.Ytoegpalacppllaa.Hn
