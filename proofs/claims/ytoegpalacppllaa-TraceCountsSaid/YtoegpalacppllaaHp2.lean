/- Plain laws of hunts: variants, and what is heard. No program is in sight here. -/
import Derived.Test.YtoegpalacppllaaHp
namespace Go.Proofs.Ytoegpalacppllaa.Hn

/-! ### variants -/
/-- by the reference: the first side that holds a user -/
def varF (named : LI) (u : Int) : List LI → Nat → Int
  | [], _ => if named.contains u then -1 else 0
  | l :: ps, j => if l.contains u then (j : Int) + 1 else varF named u ps (j + 1)
def variantB (h : Hu) (u : Int) : Int := varF h.named u h.ps 0
/-- by the program: the last one among the first j -/
def varP (h : Hu) (u : Int) : Nat → Int
  | 0 => if h.named.contains u then -1 else 0
  | j + 1 => if (h.ps.getD j []).contains u then (j : Int) + 1 else varP h u j
def variants (h : Hu) : LI := (rangeI h.users.toNat).map (variantB h)

theorem varF_skip {named : LI} {u : Int} : ∀ (ps : List LI) (j : Nat), (∀ l ∈ ps, u ∉ l) → varF named u ps j = if named.contains u then -1 else 0
  | [], _, _ => rfl
  | l :: ps, j, h => by
    have : l.contains u = false := by simpa using h l (by simp)
    rw [varF, this]
    exact varF_skip ps (j + 1) fun x hx => h x (by simp [hx])
theorem varF_hit {named : LI} {u : Int} : ∀ (ps : List LI) (k i : Nat) (l : LI), ps[i]? = some l → u ∈ l → (∀ j m, j < i → ps[j]? = some m → u ∉ m) → varF named u ps k = (k : Int) + (i : Int) + 1
  | [], _, _, _, h, _, _ => by simp at h
  | m :: ps, k, 0, l, h, hu, _ => by
    simp at h; subst h
    have : m.contains u = true := by simpa using hu
    rw [varF, this]; simp
  | m :: ps, k, i + 1, l, h, hu, hno => by
    have : m.contains u = false := by simpa using hno 0 m (by omega) (by simp)
    rw [varF, this]
    simp only [Bool.false_eq_true, if_false]
    rw [varF_hit ps (k + 1) i l (by simpa using h) hu fun j m hj hm => hno (j + 1) m (by omega) (by simpa using hm)]
    omega
theorem varP_skip {h : Hu} {u : Int} : ∀ j, (∀ i l, i < j → h.ps[i]? = some l → u ∉ l) → varP h u j = if h.named.contains u then -1 else 0
  | 0, _ => rfl
  | j + 1, hno => by
    have : (h.ps.getD j []).contains u = false := by
      rw [List.getD_eq_getElem?_getD]
      cases hl : h.ps[j]? with
      | none => simp
      | some l => simpa using hno j l (by omega) hl
    rw [varP, this]
    exact varP_skip j fun i l hi hl => hno i l (by omega) hl
theorem varP_hit {h : Hu} {u : Int} {i : Nat} {l : LI} (hl : h.ps[i]? = some l) (hu : u ∈ l) : ∀ j, i < j → (∀ k m, i < k → k < j → h.ps[k]? = some m → u ∉ m) → varP h u j = (i : Int) + 1
  | 0, hj, _ => by omega
  | j + 1, hj, hno => by
    by_cases hij : i = j
    · subst hij
      have : (h.ps.getD i []).contains u = true := by rw [List.getD_eq_getElem?_getD, hl]; simpa using hu
      rw [varP, this]; simp
    · have : (h.ps.getD j []).contains u = false := by
        rw [List.getD_eq_getElem?_getD]
        cases hm : h.ps[j]? with
        | none => simp
        | some m => simpa using hno j m (by omega) (by omega) hm
      rw [varP, this]
      exact varP_hit hl hu j (by omega) fun k m hk hkj hm => hno k m hk (by omega) hm

theorem varF_no {h : Hu} {u : Int} (hno : ∀ l ∈ h.ps, u ∉ l) : variantB h u = if h.named.contains u then -1 else 0 := varF_skip _ _ hno
section
variable {h : Hu} (v : Valid h)
include v
/-- sides have no user in common -/
theorem Valid.side_eq {i j : Nat} {l m : LI} {u : Int} (hi : h.ps[i]? = some l) (hj : h.ps[j]? = some m) (hl : u ∈ l) (hm : u ∈ m) : i = j := by
  have hn : h.ps.flatten.Nodup := (List.nodup_append.1 v.nodup).2.1
  rw [List.nodup_iff_pairwise_ne, List.pairwise_flatten] at hn
  have h2 := hn.2
  rw [List.pairwise_iff_getElem] at h2
  obtain ⟨hil, rfl⟩ := List.getElem?_eq_some_iff.1 hi
  obtain ⟨hjl, rfl⟩ := List.getElem?_eq_some_iff.1 hj
  rcases Nat.lt_trichotomy i j with hlt | rfl | hlt
  · exact absurd rfl (h2 i j hil hjl hlt u hl u hm)
  · rfl
  · exact absurd rfl (h2 j i hjl hil hlt u hm u hl)
theorem Valid.named_side {l : LI} {u : Int} (hl : l ∈ h.ps) (hu : u ∈ l) : u ∉ h.named := fun hn =>
  (List.nodup_append.1 v.nodup).2.2 u (List.mem_append_right _ hn) u (List.mem_flatten.2 ⟨l, hl, hu⟩) rfl
theorem Valid.rest_side {l : LI} {u : Int} (hl : l ∈ h.ps) (hu : u ∈ l) : u ∉ h.rest := fun hn =>
  (List.nodup_append.1 v.nodup).2.2 u (List.mem_append_left _ hn) u (List.mem_flatten.2 ⟨l, hl, hu⟩) rfl
theorem Valid.rest_named {u : Int} (hu : u ∈ h.rest) : u ∉ h.named := fun hn =>
  (List.nodup_append.1 (List.nodup_append.1 v.nodup).1).2.2 u hu u hn rfl
theorem Valid.varF_at {i : Nat} {l : LI} {u : Int} (hi : h.ps[i]? = some l) (hu : u ∈ l) : variantB h u = (i : Int) + 1 := by
  unfold variantB
  rw [varF_hit h.ps 0 i l hi hu fun j m hj hm hum => by have := v.side_eq hm hi hum hu; omega]
  omega
theorem Valid.varP_eq (u : Int) : varP h u h.ps.length = variantB h u := by
  by_cases hs : ∃ l ∈ h.ps, u ∈ l
  · obtain ⟨l, hl, hu⟩ := hs
    obtain ⟨i, hi⟩ := List.getElem?_of_mem hl
    have hlt := (List.getElem?_eq_some_iff.1 hi).1
    rw [v.varF_at hi hu, varP_hit hi hu _ hlt fun k m hk _ hm hum => by have := v.side_eq hm hi hum hu; omega]
  · have hno : ∀ l ∈ h.ps, u ∉ l := fun l hl hu => hs ⟨l, hl, hu⟩
    rw [varF_no hno, varP_skip _ fun i l _ hl => hno l (List.mem_of_getElem? hl)]
theorem Valid.user_side {l : LI} {u : Int} (hl : l ∈ h.ps) (hu : u ∈ l) : 0 ≤ u ∧ u < h.users := users_mem (v.ps l hl).1 hu
/-- which variants there are -/
theorem Valid.has_variant (x : Int) (h0 : 0 ≤ x) : (variants h).contains x = decide (x ≤ h.ps.length ∧ (x = 0 → h.rest ≠ [])) := by
  rw [Bool.eq_iff_iff, List.contains_iff_mem, decide_eq_true_eq]
  simp only [variants, List.mem_map]
  constructor
  · rintro ⟨u, hu, rfl⟩
    obtain ⟨u0, u1⟩ := mem_rangeI.1 hu
    by_cases hs : ∃ l ∈ h.ps, u ∈ l
    · obtain ⟨l, hl, hu⟩ := hs
      obtain ⟨i, hi⟩ := List.getElem?_of_mem hl
      have hlt := (List.getElem?_eq_some_iff.1 hi).1
      rw [v.varF_at hi hu]
      exact ⟨by omega, fun h => by omega⟩
    · have hno : ∀ l ∈ h.ps, u ∉ l := fun l hl hu => hs ⟨l, hl, hu⟩
      rw [varF_no hno] at h0 ⊢
      by_cases hn : u ∈ h.named
      · simp [hn] at h0
      · simp only [List.contains_iff_mem, hn, if_false]
        refine ⟨by omega, fun _ e => ?_⟩
        rcases v.cover u u0 (by have := v.u1; omega) with hr | hr | ⟨l, hl, hr⟩
        · rw [e] at hr; cases hr
        · exact hn hr
        · exact hno l hl hr
  · rintro ⟨h1, h2⟩
    by_cases hx : x = 0
    · subst hx
      obtain ⟨u, hu⟩ := List.exists_mem_of_ne_nil _ (h2 rfl)
      have hb := users_mem v.rest hu
      refine ⟨u, mem_rangeI.2 ⟨hb.1, by omega⟩, ?_⟩
      rw [varF_no fun l hl hul => v.rest_side hl hul hu]
      have := v.rest_named hu
      simp [this]
    · have hlt : x.toNat - 1 < h.ps.length := by omega
      have hi : h.ps[x.toNat - 1]? = some h.ps[x.toNat - 1] := List.getElem?_eq_getElem hlt
      have hm := List.mem_of_getElem? hi
      obtain ⟨u, hu⟩ := List.exists_mem_of_ne_nil _ (v.ps _ hm).2
      have hb := v.user_side hm hu
      refine ⟨u, mem_rangeI.2 ⟨hb.1, by omega⟩, ?_⟩
      rw [v.varF_at hi hu]; omega
end

/-! ### what is heard -/
/-- by the reference: the users of two lists, in order -/
def merged (a b : LI) : LI := (rangeI 64).filter fun u => a.contains u || b.contains u
/-- a list in order -/
def Up (l : LI) : Prop := l.Pairwise (· < ·)
theorem up_ext : ∀ {a b : LI}, Up a → Up b → (∀ x, x ∈ a ↔ x ∈ b) → a = b
  | [], [], _, _, _ => rfl
  | [], y :: b, _, _, h => by have := (h y).2 (by simp); cases this
  | x :: a, [], _, _, h => by have := (h x).1 (by simp); cases this
  | x :: a, y :: b, ha, hb, h => by
    have ha' := List.pairwise_cons.1 ha
    have hb' := List.pairwise_cons.1 hb
    have hxy : x = y := by
      have h1 := (h x).1 (by simp)
      have h2 := (h y).2 (by simp)
      rcases List.mem_cons.1 h1 with h1 | h1
      · exact h1
      · rcases List.mem_cons.1 h2 with h2 | h2
        · exact h2.symm
        · have := hb'.1 x h1
          have := ha'.1 y h2
          omega
    subst hxy
    rw [up_ext ha'.2 hb'.2 fun z => ?_]
    have hz := h z
    constructor
    · intro hza
      rcases List.mem_cons.1 (hz.1 (by simp [hza])) with e | e
      · have := ha'.1 z hza; omega
      · exact e
    · intro hzb
      rcases List.mem_cons.1 (hz.2 (by simp [hzb])) with e | e
      · have := hb'.1 z hzb; omega
      · exact e
theorem users_up {l : LI} {n : Int} (h : usersB l n = true) : Up l := by
  rw [Up, List.pairwise_iff_getElem]
  intro i j hi hj hij
  have := users_lt h i j hij hj
  simpa [at_, hi, hj] using this
theorem merged_up (a b : LI) : Up (merged a b) := by
  refine List.Pairwise.filter _ ?_
  rw [rangeI, List.pairwise_map]
  exact List.pairwise_lt_range.imp fun h => by omega
theorem mem_merged {a b : LI} {x : Int} : x ∈ merged a b ↔ (0 ≤ x ∧ x < 64) ∧ (x ∈ a ∨ x ∈ b) := by
  simp [merged, mem_rangeI]
/-- any list in order with the same members is what the reference makes -/
theorem merged_eq {a b s : LI} (hs : s.Pairwise (· ≤ ·)) (hp : s.Perm (a ++ b)) (hn : (a ++ b).Nodup) (hr : ∀ x ∈ a ++ b, 0 ≤ x ∧ x < 64) : s = merged a b := by
  have hns : s.Nodup := (hp.nodup_iff).2 hn
  refine up_ext ?_ (merged_up a b) fun x => ?_
  · exact (List.pairwise_and_iff.2 ⟨hs, List.nodup_iff_pairwise_ne.1 hns⟩).imp fun h => by omega
  · rw [mem_merged, hp.mem_iff]
    constructor
    · intro hx; exact ⟨hr x hx, List.mem_append.1 hx⟩
    · intro hx; exact List.mem_append.2 hx.2

def halfN (l : LI) : Nat := (l.length + 1) / 2
/-- a hunt after hearing a variant that there is -/
def heard (h : Hu) (x : Nat) : Hu :=
  if x = 0 then
    { users := h.users, rounds := h.rounds + 1, rest := [], named := if h.rest.length = 1 then merged h.named h.rest else h.named
      ps := if h.rest.length = 1 then h.ps else h.ps ++ [h.rest.take (halfN h.rest), h.rest.drop (halfN h.rest)] }
  else
    let i := (x - 1) / 2
    let side := h.ps.getD (x - 1) []
    let other := h.ps.getD (2 * i + (x % 2)) []
    { users := h.users, rounds := h.rounds + 1, rest := merged h.rest other, named := if side.length = 1 then merged h.named side else h.named
      ps := if side.length = 1 then h.ps.take (2 * i) ++ h.ps.drop (2 * i + 2) else (h.ps.set (2 * i) (side.take (halfN side))).set (2 * i + 1) (side.drop (halfN side)) }
def noHunt : Hu := ⟨0, [], [], [], 0⟩
/-- by the reference: the hunt, and the error -/
def hear (h : Hu) (x : Int) : Hu × Nat :=
  if validB h = false then (noHunt, 8)
  else if x < 0 ∨ (h.ps.length : Int) < x ∨ (x = 0 ∧ h.rest = []) then (noHunt, 80)
  else if h.rounds = 100000 then (noHunt, 9)
  else (heard h x.toNat, 0)
end Go.Proofs.Ytoegpalacppllaa.Hn
