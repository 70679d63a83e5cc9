/- Part 3 of 6: what the law of this claim leans on -/
import Derived.Test.YtoegpalacppllaaGreatPkF2
import Derived.Lib.SlicesCompact
import Derived.Lib.RowBridge
/- Plain laws of labels: which subsets a receiver's labels lead to. No program is in sight here. -/
namespace Go.Proofs.YtoegpalacppllaaGreat.Tr
open Hn

/-- the sibling of a node -/
def sib (v : Nat) : Nat := v ^^^ 1
theorem sib_tab : (upto 128 fun v => (Nat.ble v 1 || Nat.beq (lev (sib v)) (lev v)) && Nat.ble (sib v) 127 && !Nat.beq (sib v) v && Nat.beq (sib v) (if v % 2 = 0 then v + 1 else v - 1)) = true := by decide +kernel
theorem sib_all {v : Nat} (h : v < 128) : (1 < v → lev (sib v) = lev v) ∧ sib v < 128 ∧ sib v ≠ v ∧ sib v = if v % 2 = 0 then v + 1 else v - 1 := by
  have := upto_get sib_tab h
  simp only [Bool.and_eq_true, Bool.or_eq_true, Nat.ble_eq, Bool.not_eq_true', ← Bool.not_eq_true] at this
  obtain ⟨⟨⟨h1, h2⟩, h3⟩, h4⟩ := this
  refine ⟨fun h5 => ?_, by omega, fun e => h3 (by rw [e]; exact Nat.beq_refl v), Nat.eq_of_beq_eq_true h4⟩
  rcases h1 with h1 | h1
  · omega
  · exact Nat.eq_of_beq_eq_true h1
theorem sib_of {a b : Nat} (hb : b < 128) (h : a / 2 = b / 2) (hn : a ≠ b) : a = sib b := by
  rw [(sib_all hb).2.2.2]; split <;> omega
/-- the node of the path down to y at a level -/
def pn (d y i : Nat) : Nat := sh y (d - i)
def labE (s : Sc) (y i k : Nat) : List (Int × Int) :=
  if subB s ((pn s.d.toNat y i : Nat) : Int) ((sib (pn s.d.toNat y k) : Nat) : Int) then [(((pn s.d.toNat y i : Nat) : Int), ((sib (pn s.d.toNat y k) : Nat) : Int))] else []
def rowL (s : Sc) (y i : Nat) : Nat → List (Int × Int)
  | 0 => []
  | k + 1 => rowL s y i k ++ (if i < k then labE s y i k else [])
def labs (s : Sc) (y : Nat) : Nat → List (Int × Int)
  | 0 => [(1, 0)]
  | i + 1 => labs s y i ++ rowL s y i (s.d.toNat + 1)
def lab1 (d y : Nat) : Nat → List (Int × Int)
  | 0 => []
  | i + 1 => lab1 d y i ++ [(((pn d y i : Nat) : Int), 0)]
/-- the labels of a receiver -/
def labN (s : Sc) (u : Nat) : List (Int × Int) := if s.k = 1 then lab1 s.d.toNat (p2 s.d.toNat + u) (s.d.toNat + 1) else labs s (p2 s.d.toNat + u) (s.d.toNat + 1)
theorem rowL_none (s : Sc) (y i : Nat) : ∀ {k : Nat}, k ≤ i + 1 → rowL s y i k = []
  | 0, _ => rfl
  | k + 1, h => by rw [rowL, rowL_none s y i (by omega), if_neg (by omega)]; rfl
theorem labE_len (s : Sc) (y i k : Nat) : (labE s y i k).length ≤ 1 := by unfold labE; split <;> simp
theorem rowL_len (s : Sc) (y i : Nat) : ∀ k, (rowL s y i k).length ≤ k
  | 0 => Nat.le_refl _
  | k + 1 => by
    have := rowL_len s y i k
    have := labE_len s y i k
    rw [rowL, List.length_append]
    split
    · omega
    · simp; omega
theorem labs_len (s : Sc) (y : Nat) : ∀ i, (labs s y i).length ≤ 1 + i * (s.d.toNat + 1)
  | 0 => by simp [labs]
  | i + 1 => by
    have := labs_len s y i
    have := rowL_len s y i (s.d.toNat + 1)
    rw [labs, List.length_append, Nat.add_mul]; omega
theorem lab1_len (d y : Nat) : ∀ i, (lab1 d y i).length = i
  | 0 => rfl
  | i + 1 => by rw [lab1, List.length_append, lab1_len d y i]; rfl
/-- the leaf of a receiver -/
theorem leaf_lev {d u : Nat} (hu : u < p2 d) : lev (p2 d + u) = d := by
  have hp := p2_pos d
  rw [lev, Nat.log2_eq_iff (by omega)]
  rw [p2_pow] at *
  rw [Nat.pow_succ]
  omega
theorem top_tab : (upto 128 fun y => Nat.ble y 0 || belowN y 1) = true := by decide +kernel
theorem below_top {y : Nat} (h0 : 0 < y) (h : y < 128) : belowN y 1 = true := by
  have := upto_get top_tab h
  simp only [Bool.or_eq_true, Nat.ble_eq] at this
  rcases this with h1 | h1
  · omega
  · exact h1
/-- whether a label leads to a subset -/
def leadB (s : Sc) (node minus v w : Int) : Bool :=
  if s.k = 1 ∨ w = 0 then decide (node = v ∧ minus = w) else decide (node = v ∧ 1 ≤ minus) && belowN minus.toNat node.toNat && belowN w.toNat minus.toNat
/-- the index of the first label that leads to a subset, or -1 -/
def knownI (s : Sc) (ls : List (Int × Int)) (v w : Int) : Int := match (List.range ls.length).find? fun i => leadB s (qn ls i) (qm ls i) v w with
  | some i => (i : Int)
  | none => -1
theorem known_yes {s : Sc} {ls : List (Int × Int)} {v w : Int} {i : Nat} (hi : i < ls.length) (h : leadB s (qn ls i) (qm ls i) v w = true) (hb : ∀ k, k < i → leadB s (qn ls k) (qm ls k) v w = false) : knownI s ls v w = (i : Int) := by
  have : (List.range ls.length).find? (fun i => leadB s (qn ls i) (qm ls i) v w) = some i := List.find?_range_eq_some.2 ⟨h, List.mem_range.2 hi, fun j hj => by rw [hb j hj]; rfl⟩
  rw [knownI, this]
theorem known_no {s : Sc} {ls : List (Int × Int)} {v w : Int} (hb : ∀ k, k < ls.length → leadB s (qn ls k) (qm ls k) v w = false) : knownI s ls v w = -1 := by
  have : (List.range ls.length).find? (fun i => leadB s (qn ls i) (qm ls i) v w) = none := List.find?_eq_none.2 fun j hj => by rw [hb j (List.mem_range.1 hj)]; decide
  rw [knownI, this]
theorem q_mem {ls : List (Int × Int)} {l : Int × Int} : l ∈ ls ↔ ∃ i, i < ls.length ∧ l = (qn ls i, qm ls i) := by
  constructor
  · intro h
    obtain ⟨i, hi, e⟩ := List.getElem_of_mem h
    exact ⟨i, hi, by subst e; simp [qn, qm, List.getD_eq_getElem?_getD, hi]⟩
  · rintro ⟨i, hi, rfl⟩
    have : (qn ls i, qm ls i) = ls[i] := by simp [qn, qm, List.getD_eq_getElem?_getD, hi]
    rw [this]
    exact List.getElem_mem hi
theorem known_iff {s : Sc} {ls : List (Int × Int)} {v w : Int} : 0 ≤ knownI s ls v w ↔ ∃ l ∈ ls, leadB s l.1 l.2 v w = true := by
  constructor
  · intro h
    apply Classical.byContradiction
    intro hn
    have := known_no (s := s) (ls := ls) (v := v) (w := w) fun k hk => by
      rw [← Bool.not_eq_true]
      exact fun e => hn ⟨_, q_mem.2 ⟨k, hk, rfl⟩, e⟩
    omega
  · rintro ⟨l, hl, h⟩
    obtain ⟨i, hi, rfl⟩ := q_mem.1 hl
    unfold knownI
    cases hf : (List.range ls.length).find? fun i => leadB s (qn ls i) (qm ls i) v w with
    | some j => simp only; omega
    | none =>
      have := List.find?_eq_none.1 hf i (List.mem_range.2 hi)
      exact absurd h this
theorem mem_rowL {s : Sc} {y i : Nat} {l : Int × Int} : ∀ {n : Nat}, l ∈ rowL s y i n ↔ ∃ k, k < n ∧ i < k ∧ l ∈ labE s y i k
  | 0 => by simp [rowL]
  | n + 1 => by
    rw [rowL, List.mem_append, mem_rowL]
    constructor
    · rintro (⟨k, h1, h2⟩ | h)
      · exact ⟨k, by omega, h2⟩
      · split at h
        · exact ⟨n, by omega, by assumption, h⟩
        · cases h
    · rintro ⟨k, h1, h2, h3⟩
      by_cases e : k = n
      · subst e; right; rw [if_pos h2]; exact h3
      · exact .inl ⟨k, by omega, h2, h3⟩
theorem mem_labs {s : Sc} {y : Nat} {l : Int × Int} : ∀ {n : Nat}, l ∈ labs s y n ↔ l = (1, 0) ∨ ∃ i k, i < n ∧ k < s.d.toNat + 1 ∧ i < k ∧ l ∈ labE s y i k
  | 0 => by simp [labs]
  | n + 1 => by
    rw [labs, List.mem_append, mem_labs, mem_rowL]
    constructor
    · rintro ((h | ⟨i, k, h1, h2⟩) | ⟨k, h1, h2⟩)
      · exact .inl h
      · exact .inr ⟨i, k, by omega, h2⟩
      · exact .inr ⟨n, k, by omega, h1, h2⟩
    · rintro (h | ⟨i, k, h1, h2, h3, h4⟩)
      · exact .inl (.inl h)
      · by_cases e : i = n
        · subst e; exact .inr ⟨k, h2, h3, h4⟩
        · exact .inl (.inr ⟨i, k, by omega, h2, h3, h4⟩)
theorem mem_lab1 {d y : Nat} {l : Int × Int} : ∀ {n : Nat}, l ∈ lab1 d y n ↔ ∃ i, i < n ∧ l = (((pn d y i : Nat) : Int), 0)
  | 0 => by simp [lab1]
  | n + 1 => by
    rw [lab1, List.mem_append, mem_lab1, List.mem_singleton]
    constructor
    · rintro (⟨i, h, e⟩ | e)
      · exact ⟨i, by omega, e⟩
      · exact ⟨n, by omega, e⟩
    · rintro ⟨i, h, e⟩
      by_cases e2 : i = n
      · subst e2; exact .inr e
      · exact .inl ⟨i, by omega, e⟩
theorem below_trans {a b c : Nat} (h1 : belowN a b = true) (h2 : belowN b c = true) : belowN a c = true := by
  obtain ⟨l1, e1⟩ := below_iff.1 h1
  obtain ⟨l2, e2⟩ := below_iff.1 h2
  refine below_iff.2 ⟨by omega, ?_⟩
  rw [show lev a - lev c = (lev a - lev b) + (lev b - lev c) by omega, ← sh_add, e1, e2]
theorem below_pn {y i : Nat} (hy : y < 128) (hi : i ≤ lev y) : belowN y (pn (lev y) y i) = true ∧ lev (pn (lev y) y i) = i := by
  have h := sh_lev hy (i := lev y - i) (by omega)
  have e : lev (pn (lev y) y i) = i := by rw [pn, h]; omega
  exact ⟨below_iff.2 ⟨by omega, by rw [e]; rfl⟩, e⟩
theorem pn_of {y v : Nat} (h : belowN y v = true) : pn (lev y) y (lev v) = v := (below_iff.1 h).2
/-- where two paths part -/
theorem part {y w : Nat} (hy : y < 128) (hw : w < 128) (y0 : 0 < y) (w0 : 0 < w) (hl : lev w ≤ lev y) (h : belowN y w = false) : ∃ k, k ≤ lev w ∧ pn (lev w) w k = sib (pn (lev y) y k) ∧ ∀ j, j < k → pn (lev w) w j = pn (lev y) y j := by
  have hne : pn (lev w) w (lev w) ≠ pn (lev y) y (lev w) := fun e => by
    rw [show pn (lev w) w (lev w) = w by rw [pn, Nat.sub_self]; rfl] at e
    have : belowN y w = true := below_iff.2 ⟨hl, e.symm⟩
    rw [this] at h; cases h
  have step : ∀ n, n ≤ lev w → (∀ j, j ≤ n → pn (lev w) w j = pn (lev y) y j) ∨ ∃ k, k ≤ n ∧ pn (lev w) w k ≠ pn (lev y) y k ∧ ∀ j, j < k → pn (lev w) w j = pn (lev y) y j := by
    intro n
    induction n with
    | zero =>
      intro _
      by_cases e : pn (lev w) w 0 = pn (lev y) y 0
      · exact .inl fun j hj => by rw [show j = 0 by omega]; exact e
      · exact .inr ⟨0, Nat.le_refl _, e, fun j hj => by omega⟩
    | succ n ih =>
      intro hn
      rcases ih (by omega) with h1 | ⟨k, h1, h2⟩
      · by_cases e : pn (lev w) w (n + 1) = pn (lev y) y (n + 1)
        · exact .inl fun j hj => by
            rcases Nat.lt_or_ge j (n + 1) with h2 | h2
            · exact h1 j (by omega)
            · rw [show j = n + 1 by omega]; exact e
        · exact .inr ⟨n + 1, Nat.le_refl _, e, fun j hj => h1 j (by omega)⟩
      · exact .inr ⟨k, by omega, h2⟩
  rcases step (lev w) (Nat.le_refl _) with h1 | ⟨k, hk, hn, hb⟩
  · exact absurd (h1 _ (Nat.le_refl _)) hne
  · refine ⟨k, hk, sib_of (Nat.lt_of_le_of_lt (sh_le _ _) hy) ?_ hn, hb⟩
    have top : ∀ z, 0 < z → z < 128 → pn (lev z) z 0 = 1 := fun z z0 hz => by have := pn_of (below_top z0 hz); rwa [lev_one (v := 1) (by omega)] at this
    cases k with
    | zero => exact absurd ((top w w0 hw).trans (top y y0 hy).symm) hn
    | succ k =>
      have e := hb k (by omega)
      unfold pn at *
      rw [show lev w - k = (lev w - (k + 1)) + 1 by omega, show lev y - k = (lev y - (k + 1)) + 1 by omega, sh_succ, sh_succ] at e
      exact e
theorem bet_cut {d : Int} {w t : Nat} : ∀ {m : Nat}, bet d w (t + m) = 0 → bet d (sh w t) m = 0
  | 0, _ => rfl
  | m + 1, h => by
    rw [show t + (m + 1) = (t + m) + 1 by omega, bet] at h
    rw [bet, sh_add, show t + (m + 1) = t + m + 1 by omega]
    split at h
    · rw [if_pos (by assumption)]; exact h
    · rw [if_neg (by assumption)]; exact bet_cut h
theorem sub_parts {s : Sc} {v w : Int} (h : subB s v w = true) : nodeB s.d v = true ∧ (s.k = 1 → w = 0) ∧ (s.k ≠ 1 → w = 0 → v = 1) ∧ (s.k ≠ 1 → w ≠ 0 → nodeB s.d w = true ∧ w ≠ v ∧ belowN w.toNat v.toNat = true ∧ (decide (s.k = 2) || specN s.d v.toNat || decide (bet s.d w.toNat (lev w.toNat - lev v.toNat - 1) = 0)) = true) := by
  have hv : nodeB s.d v = true := by
    cases hv : nodeB s.d v with
    | true => rfl
    | false => rw [sub_no1 hv] at h; cases h
  refine ⟨hv, fun hk => ?_, fun hk hw => ?_, fun hk hw => ?_⟩
  · rw [sub_k1 hv hk] at h; exact of_decide_eq_true h
  · rw [sub_w0 hv hk hw] at h; exact of_decide_eq_true h
  · have hn : ¬ (nodeB s.d w = false ∨ w = v ∨ belowN w.toNat v.toNat = false) := fun hn => by rw [sub_no hv hk hw hn] at h; cases h
    have h1 : nodeB s.d w = true := by rw [← Bool.not_eq_false]; exact fun e => hn (.inl e)
    have h2 : belowN w.toNat v.toNat = true := by rw [← Bool.not_eq_false]; exact fun e => hn (.inr (.inr e))
    refine ⟨h1, fun e => hn (.inr (.inl e)), h2, ?_⟩
    rw [sub_last hv hk hw hn] at h
    exact h
theorem lev_mono {a d : Nat} (h0 : 0 < a) (h : a < 2 * p2 d) : lev a ≤ d := by
  rw [lev]
  have := (Nat.log2_lt (show a ≠ 0 by omega) (k := d + 1)).2 (by rw [Nat.pow_succ, ← p2_pow]; omega)
  omega
/-- a receiver has a label that leads to a subset just if it is a member -/
theorem known_mem {s : Sc} {v w : Int} {u : Nat} (hs : schB s = true) (hx : subB s v w = true) (hu : u < p2 s.d.toNat) : (0 ≤ knownI s (labN s u) v w) ↔ memB s v w u = true := by
  obtain ⟨k1, k3, d0, d6, -⟩ := schB_iff.1 hs
  obtain ⟨hv, p1, p3, p4⟩ := sub_parts hx
  have hv2 := node_lt hv d6
  have hp := p2_le (n := s.d.toNat) (by omega)
  have hp0 := p2_pos s.d.toNat
  obtain ⟨v', rfl⟩ : ∃ n : Nat, v = n := ⟨v.toNat, by omega⟩
  obtain ⟨y, hy⟩ : ∃ y, y = p2 s.d.toNat + u := ⟨_, rfl⟩
  have hly : lev y = s.d.toNat := by rw [hy]; exact leaf_lev hu
  have hy2 : y < 128 := by omega
  rw [known_iff, memB, ← hy, labN, ← hy, ← hly, Int.toNat_natCast]
  by_cases hk : s.k = 1
  · obtain rfl := p1 hk
    rw [if_pos hk]
    simp only [decide_true, Bool.true_or, Bool.and_true]
    constructor
    · rintro ⟨l, hl, h⟩
      obtain ⟨i, hi, rfl⟩ := mem_lab1.1 hl
      rw [leadB, if_pos (.inl hk)] at h
      obtain ⟨h1, -⟩ := of_decide_eq_true h
      have := (below_pn hy2 (i := i) (by omega)).1
      rwa [show pn (lev y) y i = v' by simp only at h1; omega] at this
    · intro h
      refine ⟨_, mem_lab1.2 ⟨lev v', by have := (below_iff.1 h).1; omega, rfl⟩, ?_⟩
      rw [leadB, if_pos (.inl hk), pn_of h]
      simp
  · rw [if_neg hk]
    by_cases hw : w = 0
    · have := p3 hk hw
      obtain rfl : v' = 1 := by omega
      subst hw
      simp only [decide_true, Bool.true_or, Bool.and_true]
      refine ⟨fun _ => below_top (by omega) hy2, fun _ => ⟨_, mem_labs.2 (.inl rfl), ?_⟩⟩
      rw [leadB, if_pos (.inr rfl)]; decide
    · obtain ⟨hwn, hne, hbv, hsp⟩ := p4 hk hw
      have hw2 := node_lt hwn d6
      have hwd := of_decide_eq_true hwn
      obtain ⟨w', rfl⟩ : ∃ n : Nat, w = n := ⟨w.toNat, by omega⟩
      simp only [Int.toNat_natCast] at hbv hsp ⊢
      rw [decide_eq_false hw, Bool.false_or, Bool.and_eq_true, Bool.not_eq_true']
      constructor
      · rintro ⟨l, hl, h⟩
        rcases mem_labs.1 hl with rfl | ⟨i, k, h1, h2, h3, h4⟩
        · rw [leadB, if_neg (by rintro (h | h); exact hk h; exact hw h)] at h
          simp at h
        · unfold labE at h4
          split at h4
          · rw [List.mem_singleton] at h4
            subst h4
            rw [leadB, if_neg (by rintro (h | h); exact hk h; exact hw h)] at h
            simp only [Bool.and_eq_true, Int.toNat_natCast, decide_eq_true_eq] at h
            rw [← hly] at h
            obtain ⟨⟨⟨h5, -⟩, h6⟩, h7⟩ := h
            obtain ⟨b1, e1⟩ := below_pn hy2 (i := i) (by omega)
            obtain ⟨b2, e2⟩ := below_pn hy2 (i := k) (by omega)
            have hkl : pn (lev y) y k < 128 := Nat.lt_of_le_of_lt (sh_le _ _) hy2
            have h1k : 1 < pn (lev y) y k := by
              apply Classical.byContradiction
              intro hn
              rw [lev_one (by omega)] at e2
              omega
            refine ⟨by rwa [show pn (lev y) y i = v' by omega] at b1, ?_⟩
            rw [← Bool.not_eq_true]
            intro hb
            have hc := pn_of (below_trans hb h7)
            rw [(sib_all hkl).1 h1k, e2] at hc
            exact (sib_all hkl).2.2.1 hc.symm
          · cases h4
      · rintro ⟨hbyv, hbyw⟩
        have hlw : lev w' ≤ lev y := by rw [hly]; exact lev_mono (by omega) (by omega)
        obtain ⟨k, hk1, hk2, hk3⟩ := part hy2 (by omega) (by omega) (by omega) hlw hbyw
        have hlv := (below_iff.1 hbv).1
        have hkv : lev v' < k := by
          apply Classical.byContradiction
          intro hn
          have a1 := pn_of hbv
          have a2 := pn_of hbyv
          have e1 : pn (lev w') w' k = sh v' (lev v' - k) := by
            rw [pn, show lev w' - k = (lev w' - lev v') + (lev v' - k) by have := (below_iff.1 hbv).1; omega, ← sh_add]
            exact congrArg (fun z => sh z (lev v' - k)) a1
          have e2 : pn (lev y) y k = sh v' (lev v' - k) := by
            rw [pn, show lev y - k = (lev y - lev v') + (lev v' - k) by have := (below_iff.1 hbyv).1; omega, ← sh_add]
            exact congrArg (fun z => sh z (lev v' - k)) a2
          have hkl : pn (lev y) y k < 128 := Nat.lt_of_le_of_lt (sh_le _ _) hy2
          exact (sib_all hkl).2.2.1 (hk2.symm.trans (e1.trans e2.symm))
        have hcl : lev (pn (lev w') w' k) = k := (below_pn (by omega) hk1).2
        have hcw : pn (lev w') w' k ≤ w' := sh_le _ _
        have hc1 : 1 < pn (lev w') w' k := by
          apply Classical.byContradiction
          intro hn
          rw [lev_one (by omega)] at hcl
          omega
        have hcv : belowN (pn (lev w') w' k) v' = true := below_iff.2 ⟨by omega, by rw [hcl, pn, sh_add, show lev w' - k + (k - lev v') = lev w' - lev v' by omega]; exact (below_iff.1 hbv).2⟩
        have hvp : pn (lev y) y (lev v') = v' := pn_of hbyv
        have hsub : subB s (v' : Int) ((pn (lev w') w' k : Nat) : Int) = true := by
          rw [sub_end hv hk (by omega) (decide_eq_true (by omega)) (fun e => by rw [show pn (lev w') w' k = v' by omega] at hcl; omega) (by simpa using hcv)]
          simp only [Int.toNat_natCast, Bool.or_eq_true, decide_eq_true_eq] at hsp ⊢
          rcases hsp with h | h
          · exact .inl h
          · refine .inr ?_
            rw [hcl, pn]
            refine bet_cut ?_
            rwa [show lev w' - k + (k - lev v' - 1) = lev w' - lev v' - 1 by omega]
        refine ⟨((v' : Int), ((pn (lev w') w' k : Nat) : Int)), mem_labs.2 (.inr ⟨lev v', k, by omega, by omega, hkv, ?_⟩), ?_⟩
        · rw [labE, ← hly, hvp, ← hk2, if_pos hsub]; exact List.mem_singleton.2 rfl
        · rw [leadB, if_neg (by rintro (h | h); exact hk h; exact hw h)]
          simp only [Bool.and_eq_true, Int.toNat_natCast, decide_eq_true_eq]
          exact ⟨⟨⟨trivial, by omega⟩, hcv⟩, below_iff.2 ⟨by omega, by rw [hcl]; rfl⟩⟩
theorem lab_pos (s : Sc) (u : Nat) : 0 < (labN s u).length := by
  unfold labN
  split
  · rw [lab1_len]; omega
  · exact List.length_pos_of_mem (mem_labs.2 (.inl rfl))
theorem lab_len {s : Sc} {u : Nat} (hs : schB s = true) : (labN s u).length ≤ 50 := by
  obtain ⟨k1, k3, d0, d6, -⟩ := schB_iff.1 hs
  unfold labN
  split
  · rw [lab1_len]; omega
  · have := labs_len s (p2 s.d.toNat + u) (s.d.toNat + 1)
    have h3 : (s.d.toNat + 1) * (s.d.toNat + 1) ≤ 7 * 7 := Nat.mul_le_mul (by omega) (by omega)
    omega
theorem lab_lt {s : Sc} {u : Nat} (hs : schB s = true) (hu : u < p2 s.d.toNat) (i : Nat) (hi : i < (labN s u).length) : qm (labN s u) i < 128 := by
  obtain ⟨k1, k3, d0, d6, -⟩ := schB_iff.1 hs
  have hp := p2_le (n := s.d.toNat) (by omega)
  have hm := q_mem.2 ⟨i, hi, rfl⟩
  generalize hz : (qn (labN s u) i, qm (labN s u) i) = z at hm
  have e : qm (labN s u) i = z.2 := by rw [← hz]
  rw [e]
  unfold labN at hm
  split at hm
  · obtain ⟨j, -, rfl⟩ := mem_lab1.1 hm
    show (0 : Int) < 128
    decide
  · rcases mem_labs.1 hm with rfl | ⟨j, k, -, -, -, h4⟩
    · show (0 : Int) < 128
      decide
    · unfold labE at h4
      split at h4
      · rw [List.mem_singleton] at h4
        subst h4
        have := (sib_all (Nat.lt_of_le_of_lt (sh_le (p2 s.d.toNat + u) (s.d.toNat - k)) (by omega) : pn s.d.toNat (p2 s.d.toNat + u) k < 128)).2.1
        simp only
        omega
      · cases h4
/-- whether a coalition has a member of a subset -/
def opnB (s : Sc) (l : List Int) (v w : Int) : Bool := (List.range l.length).any fun i => memB s v w (at_ l i).toNat
theorem opn_yes {s : Sc} {l : List Int} {v w : Int} {i : Nat} (hi : i < l.length) (h : memB s v w (at_ l i).toNat = true) : opnB s l v w = true := List.any_eq_true.2 ⟨i, List.mem_range.2 hi, h⟩
theorem opn_no {s : Sc} {l : List Int} {v w : Int} (h : ∀ i, i < l.length → memB s v w (at_ l i).toNat = false) : opnB s l v w = false := by
  rw [← Bool.not_eq_true]
  intro e
  obtain ⟨i, hi, e⟩ := List.any_eq_true.1 e
  rw [h i (List.mem_range.1 hi)] at e
  cases e
/-- which subsets are open to a box -/
def opens (b : Bo) (l : List (Int × Int)) (n : Nat) : List Bool := (List.range n).map fun i => opnB b.s b.l (qn l i) (qm l i)
theorem opens_succ (b : Bo) (l : List (Int × Int)) (n : Nat) : opens b l (n + 1) = opens b l n ++ [opnB b.s b.l (qn l n) (qm l n)] := by simp [opens, List.range_succ]
theorem opens_len (b : Bo) (l : List (Int × Int)) (n : Nat) : (opens b l n).length = n := by simp [opens]
theorem users_at {l : List Int} {m : Int} (h : usersB l m = true) {i : Nat} (hi : i < l.length) : 0 ≤ at_ l i ∧ at_ l i < m := ⟨(usersB_iff.1 h i hi).1, (usersB_iff.1 h i hi).2.1⟩
theorem mem_len (s : Sc) (v w : Int) (n : Nat) : (membersN s v w n).length ≤ n := by
  unfold membersN
  rw [List.length_map]
  exact Nat.le_trans (List.length_filter_le _ _) (by rw [List.length_range]; exact Nat.le_refl _)
theorem sh_pos {y : Nat} (h0 : 0 < y) (hy : y < 128) : ∀ {i : Nat}, i ≤ lev y → 0 < sh y i
  | 0, _ => h0
  | i + 1, h => by
    have h1 := sh_pos h0 hy (i := i) (by omega)
    have h2 := sh_lev hy (i := i) (by omega)
    rw [sh_succ]
    rcases Nat.lt_or_ge 1 (sh y i) with h3 | h3
    · omega
    · rw [lev_one h3] at h2; omega
end Go.Proofs.YtoegpalacppllaaGreat.Tr
namespace Go.Proofs.YtoegpalacppllaaGreat
open Go.RowKit Pl Tr Hn
theorem sl2_append : ∀ l m : List (Int × Int), sl2 (l ++ m) = sl2 l ++ sl2 m
  | [], m => rfl
  | x :: l, m => by rw [List.cons_append, sl2, sl2_append l m]; rfl
theorem xor_tab : (Tr.upto 128 fun n => decide (bits .xor .i64 ((n : Nat) : Int) 1 = ((sib n : Nat) : Int))) = true := by decide +kernel
theorem r_xorS {P : Program} {bs : List Value} {us : List (Nat × Value)} {o : Oper} {t t' : Nat} {p q : Operand} {n : Nat} (ho : o.op = .binOp .xor t p q t') (hx : ev bs us p = .int .i64 (n : Int)) (hy : ev bs us q = .int .i64 1) (hn : n < 128) : Runs P bs us o (.int .i64 ((sib n : Nat) : Int)) :=
  run_int ho hx hy fun w => by rw [← of_decide_eq_true (upto_get xor_tab hn)]; rfl
theorem NewSl.len {e : TypeId} {sz n : Nat} {xs : List Value} {v : Value} {Bs : List Blk} (h : NewSl e sz n xs v Bs) {m : Nat} (hm : n = m) : NewSl e sz m xs v Bs := hm ▸ h
end Go.Proofs.YtoegpalacppllaaGreat

/- A box after a query, and whether it plays. No function of the program is in sight here. -/
namespace Go.Proofs.YtoegpalacppllaaGreat.Tr
open Hn

/-- how many of the first open items are right, and how many are wrong; whether the first of them is right -/
def stp (o : List Bool) (f : Int) : Nat → Nat × Nat × Bool
  | 0 => (0, 0, false)
  | i + 1 => if o.getD i false then (if (i : Int) < f then ((stp o f i).1, (stp o f i).2.1 + 1, (stp o f i).2.2) else ((stp o f i).1 + 1, (stp o f i).2.1, (stp o f i).2.2 || decide ((stp o f i).2.1 + (stp o f i).1 = 0))) else stp o f i
theorem stp_no {o : List Bool} {f : Int} {i : Nat} (h : o.getD i false = false) : stp o f (i + 1) = stp o f i := by rw [stp, h]; rfl
theorem stp_wrong {o : List Bool} {f : Int} {i : Nat} (h : o.getD i false = true) (hf : (i : Int) < f) : stp o f (i + 1) = ((stp o f i).1, (stp o f i).2.1 + 1, (stp o f i).2.2) := by rw [stp, h, if_pos rfl, if_pos hf]
theorem stp_right {o : List Bool} {f : Int} {i : Nat} (h : o.getD i false = true) (hf : ¬ (i : Int) < f) : stp o f (i + 1) = ((stp o f i).1 + 1, (stp o f i).2.1, (stp o f i).2.2 || decide ((stp o f i).2.1 + (stp o f i).1 = 0)) := by rw [stp, h, if_pos rfl, if_neg hf]
theorem stp_le (o : List Bool) (f : Int) : ∀ i, (stp o f i).1 + (stp o f i).2.1 ≤ i
  | 0 => Nat.le_refl _
  | i + 1 => by
    have := stp_le o f i
    rw [stp]
    split
    · split <;> simp only <;> omega
    · omega
/-- the box after a query of which so many open items are right and so many are wrong -/
def after (b : Bo) (r w : Nat) : Bo := if 0 < r ∧ 0 < w then { b with a := b.a + 1, x := b.x + 1 } else { b with a := b.a + 1 }
def noiseB (b : Bo) : Bool := decide ((Pl.number b.k (BitVec.ofNat 64 (b.a.toNat / (b.n.toNat + 1))) (BitVec.ofNat 64 (b.n.toNat + 1))).toNat ≠ (BitVec.ofNat 64 (b.a.toNat % (b.n.toNat + 1))).toNat)
def oddB (b : Bo) (r w : Nat) : Bool := decide ((Pl.number b.k (BitVec.ofNat 64 (4294967296 + 64 * w + r)) 2#64) = 1#64)
/-- whether a box plays a query with wrong open items, by its mode -/
def playB (b : Bo) (r w : Nat) (fi : Bool) : Bool := if b.m = 1 then fi else if b.m = 3 then true else if b.m = 4 then oddB b r w else false
/-- whether a box plays -/
def askW (b : Bo) (r w : Nat) (fi : Bool) : Bool := if r = 0 ∨ (0 < b.v ∧ b.v < (after b r w).x) ∨ noiseB b = true then false else if w = 0 then true else playB b r w fi
theorem ask_no {b : Bo} {r w : Nat} {fi : Bool} (h : r = 0 ∨ (0 < b.v ∧ b.v < (after b r w).x) ∨ noiseB b = true) : askW b r w fi = false := if_pos h
theorem ask_y0 {b : Bo} {r w : Nat} {fi : Bool} (h : ¬ (r = 0 ∨ (0 < b.v ∧ b.v < (after b r w).x) ∨ noiseB b = true)) (hw : w = 0) : askW b r w fi = true := by rw [askW, if_neg h, if_pos hw]
theorem ask_w {b : Bo} {r w : Nat} {fi : Bool} (h : ¬ (r = 0 ∨ (0 < b.v ∧ b.v < (after b r w).x) ∨ noiseB b = true)) (hw : w ≠ 0) : askW b r w fi = playB b r w fi := by rw [askW, if_neg h, if_neg hw]
theorem play_1 {b : Bo} {r w : Nat} {fi : Bool} (h : b.m = 1) : playB b r w fi = fi := if_pos h
theorem play_3 {b : Bo} {r w : Nat} {fi : Bool} (h : b.m = 3) : playB b r w fi = true := by rw [playB, if_neg (by omega), if_pos h]
theorem play_4 {b : Bo} {r w : Nat} {fi : Bool} (h : b.m = 4) : playB b r w fi = oddB b r w := by rw [playB, if_neg (by omega), if_neg (by omega), if_pos h]
theorem play_2 {b : Bo} {r w : Nat} {fi : Bool} (h1 : b.m ≠ 1) (h3 : b.m ≠ 3) (h4 : b.m ≠ 4) : playB b r w fi = false := by rw [playB, if_neg h1, if_neg h3, if_neg h4]
theorem after_p {b : Bo} {r w : Nat} (h : 0 < r ∧ 0 < w) : after b r w = { b with a := b.a + 1, x := b.x + 1 } := if_pos h
theorem after_n {b : Bo} {r w : Nat} (h : ¬ (0 < r ∧ 0 < w)) : after b r w = { b with a := b.a + 1 } := if_neg h
theorem after_l (b : Bo) (r w : Nat) : (after b r w).l = b.l := by unfold after; split <;> rfl
/-- a box after a query, and whether it plays -/
def askd (b : Bo) (o : List Bool) (f : Int) : Bo := after b (stp o f o.length).1 (stp o f o.length).2.1
def plays (b : Bo) (o : List Bool) (f : Int) : Bool := askW b (stp o f o.length).1 (stp o f o.length).2.1 (stp o f o.length).2.2
/-- no box -/
def noBo : Bo := ⟨⟨0, 0, 0, 0, 0, 0⟩, [], 0, 0, 0, (0#64, 0#64), 0, 0⟩
end Go.Proofs.YtoegpalacppllaaGreat.Tr
namespace Go.Proofs.YtoegpalacppllaaGreat
open Go.RowKit Pl Tr Hn
/-- truths, as cells -/
def tl (l : List Bool) : List Value := l.map Value.bool
theorem tl_append (l m : List Bool) : tl (l ++ m) = tl l ++ tl m := by simp [tl]
theorem tl_len (l : List Bool) : (tl l).length = l.length := by simp [tl]
theorem tl_get {l : List Bool} {i : Nat} (h : i < l.length) : (tl l)[i]? = some (.bool (l.getD i false)) := by simp [tl, h]
/-- a slice that reads as these truths -/
def RdT (w : World) (s : Sl) (l : List Bool) : Prop := RdC w s l.length (tl l)
theorem RdT.past {w W : World} {s : Sl} {l : List Bool} (h : RdT w s l) (hb : Below w.heap.size w W) : RdT W s l := RdC.past h hb
theorem RdT.len {w : World} {s : Sl} {l : List Bool} (h : RdT w s l) : s.n = l.length := h.n
theorem RdT.ptr {w : World} {s : Sl} {l : List Bool} (h : RdT w s l) (hx : 0 < l.length) : ∃ b i, s.a = some ⟨b, i, none⟩ ∧ ∀ j, j < l.length → w.cell? ⟨b, i + j, none⟩ = some (.bool (l.getD j false)) := by
  obtain ⟨b, i, h1, h2⟩ := RdC.ptr h (by rw [tl_len]; exact hx)
  exact ⟨b, i, h1, fun j hj => h2 j _ (tl_get hj)⟩
theorem boC_setA (b : Bo) (t : Sl) (z : Int) : (boC b t).set 26 (.int .i64 z) = boC { b with a := z } t := rfl
theorem boC_setX (b : Bo) (t : Sl) (z : Int) : (boC b t).set 27 (.int .i64 z) = boC { b with x := z } t := rfl
theorem boC_setL (b : Bo) (t u : Sl) : (boC b t).set 6 u.v = boC b u := rfl
theorem OwnSl.repT {e : TypeId} {a : Option Addr} {n c : Nat} {l : List Bool} {Bs : List Blk} (hO : OwnSl e 1 a n c (tl l) Bs) : Rep Bs fun W => RdT W ⟨a, n, c⟩ l := fun b W hW => by
  have hn : n = l.length := by have := hO.1; rw [tl_len] at this; omega
  refine ⟨⟨?_, fun h => (hO.nilOf h).2⟩, hn, ?_⟩
  · rcases hO.2 with ⟨_, h1, h2, _⟩ | ⟨g, cur, _, _, h1, _⟩
    · simp [h1]
    · exact h1
  · exact OwnSl.rd (L := []) hO (by simpa using hW)
section
variable {P : Program} {fn : Func} {ops : Array Oper} {bs : List Value} {us : List (Nat × Value)} {ds : List Deferred} {w0 : Base} {W : World} {rest : List Oper} {o : Oper} {L : List Blk} {d : Nat} {v u : Value} {R' : Ending → World → Prop}
theorem ret_cell_tmp2 {p r s : Tmp} {t : TypeId} {n : Nat} {g : Nat} {cs : List Value} {ty : TypeId} (hW : Cl w0 L W) (q : Nat) (ht : TyA P t n) (hr : fn.results = #[.cell p t, .tmp r, .tmp s]) (hp : look bs us p = .pointer (some ⟨g, 0, none⟩)) (hL : L[q]? = some ⟨g, cs, ty⟩) (hn : cs.length = n) (hv : look bs us r = v) (hu : look bs us s = u)
    (h : R' (.returned (.tuple #[.agg cs.toArray, v, u])) W) : bodyPost P fn R' .ret (fr bs us []) W := by
  refine ⟨rfl, _, ?_, h⟩
  have h1 := run_load_agg ht W (hW.at q hL) (i := 0) (by simp only; omega)
  have h2 : (toL bs us).toArray.getD p undef = .pointer (some ⟨g, 0, none⟩) := by rw [nth_getD, ← look_nth]; exact hp
  have h3 : (toL bs us).toArray.getD r undef = v := by rw [nth_getD, ← look_nth]; exact hv
  have h4 : (toL bs us).toArray.getD s undef = u := by rw [nth_getD, ← look_nth]; exact hu
  have e : (cs.drop 0).take n = cs := by simp [← hn]
  rw [e] at h1
  show (results fn (toL bs us).toArray).run P W = _
  rw [Array.getD_eq_getD_getElem?] at h2 h3 h4
  simp at h2 h3 h4
  simp [results, hr, asAddr, h1, h2, h3, h4]
end
end Go.Proofs.YtoegpalacppllaaGreat

/- A range over a function whose rounds may leave early (by return); iterators that stop then. No function of the program is in sight here. -/
namespace Go.Proofs.YtoegpalacppllaaGreat
open Go.RowKit

section
variable {P : Program} {ops : Array Oper} {Q : Exit → Act → World → Prop} {bs : List Value} {us : List (Nat × Value)} {ds : List Deferred} {b : Base} {W : World} {rest : List Oper} {o : Oper} {L : List Blk} {d : Nat} {v : Value} {m : Nat}

/-- what an iterator does that is told to stop at round k (k = n: never) -/
def IterS (P : Program) (w : World) (gf : Nat) (lb : Array Value) (n : Nat) (enc : Nat → Array Value) : Prop :=
  ∀ (r : World) (l k : Nat) (J : Nat → List Blk → Prop) (Z : World → Prop) (L0 : List Blk) (W : World), k ≤ n →
    (∀ (i : Nat) (Lc : List Blk) (W : World), i < k → J i Lc → Cl ⟨w, r⟩ Lc W → YieldAt Fence.wide 0 P l (enc i) W fun e W' => e = .returned (.bool true) ∧ ∃ Lc', J (i + 1) Lc' ∧ Cl ⟨w, r⟩ Lc' W') →
    (∀ (Lc : List Blk) (W : World), k < n → J k Lc → Cl ⟨w, r⟩ Lc W → YieldAt Fence.wide 0 P l (enc k) W fun e W' => e = .returned (.bool false) ∧ Z W') →
    J 0 L0 → Cl ⟨w, r⟩ L0 W → CallsIn Fence.wide 0 P gf (#[.func (.yield l) #[] #[]] ++ lb) W fun e W' => (∃ v, e = .returned v) ∧ ((k = n ∧ ∃ Lc', J n Lc' ∧ Cl ⟨w, r⟩ Lc' W') ∨ (k < n ∧ Z W'))

theorem l_yieldS {l : Nat} {t : Bool} {x : Operand} {xs : Array Operand} {ts : Array TypeId} {args : List Value} {R : World → Prop} (hY : YieldAt Fence.wide 0 P l args.toArray W fun e W' => e = .returned (.bool t) ∧ R W')
    (hg : o.guard = none) (ho : o.op = .call { callee := .value x, args := xs, argTypes := ts }) (hx : ev bs us x = .func (.yield l) #[] #[]) (ha : xs.toList.map (ev bs us) = args) (hd : o.dst = some d)
    (h : ∀ W', R W' → LW (some none) 0 P ops Q rest (fr bs ((d, .bool t) :: us) ds) W') : LW (some none) 0 P ops Q (o :: rest) (fr bs us ds) W := by
  refine ⟨wpListIn_step fun K hK => ?_⟩
  rw [if_pos (wanted_none hg)]
  refine ⟨about_ok none, ?_⟩
  obtain ⟨fn, tmps, assign, body, hr, hR⟩ := hY
  have hrun : (execOp (fr bs us ds).eval o).run P W = .ok (.round l fn tmps assign body) W := by rw [eval_ev, run_callY ho hx ha]; exact hr
  have e : o.semAt (RF none).round (fr bs us ds).eval = execOp (fr bs us ds).eval o := Oper.semAt_eq _ _ _ (not_defer hrun (fun d h => by cases h))
  rw [e, hrun, Oper.uponIn_round]
  refine ⟨RF_depth none, RoundIn.mono hR ?_⟩
  rintro e w ⟨rfl, hw⟩
  refine hK _ _ ?_
  rw [hd, put_st]
  exact (h w hw).h

theorem c_rangeS {g : Operand} {ps : Array Tmp} {assign body : Code} {gf : FuncId} {lb : Array Value} {n k : Nat} {enc : Nat → Array Value} (hI : IterS P b.w gf lb n enc) (hkn : k ≤ n) (en : Enters P gf) (hg : ev bs us g = .func (.func gf) #[] lb) (hps : ∀ i, (enc i).size = ps.size)
    (J : Nat → List Blk → Prop) (Jx : List Blk → Prop) (h0 : J 0 L) (hW : Cl b L W) (A : Nat → Act)
    (E : Nat → List Value) (hE : ∀ i, ({ tmps := (ps.zip (enc i)).foldl (fun t (p, v) => t.setIfInBounds p v) (fr bs us ds).tmps, defers := [] } : Act) = fr (E i) [] [])
    (hassign : ∀ (l i : Nat) (W : World), CW (some (some l)) 0 P assign (Exit.then (fun a W' => a = A i ∧ W' = W) (fun _ _ _ => False)) (fr (E i) [] []) W)
    (hbody : ∀ (l : Nat) (r : World) (i : Nat) (Lc : List Blk) (W : World), i < k → J i Lc → Cl ⟨b.w, r⟩ Lc W → CW (some (some l)) 0 P body (fun e _ W' => e = .normal ∧ ∃ Lc', J (i + 1) Lc' ∧ Cl ⟨b.w, r⟩ Lc' W') (A i) W)
    (hstop : ∀ (l : Nat) (r : World) (Lc : List Blk) (W : World), k < n → J k Lc → Cl ⟨b.w, r⟩ Lc W → CW (some (some l)) 0 P body (fun e _ W' => e = .ret ∧ ∃ Lc', Jx Lc' ∧ Cl ⟨b.w, r⟩ Lc' W') (A k) W)
    (hdone : ∀ (D : Nat) (r : World) (Lc : List Blk) (W' : World), k = n → b.w.heap.size ≤ D → J n Lc → Cl ⟨b.w, r⟩ Lc W' → r.heap[D]? = some (.deferred (some [])) → Q .normal (fr bs us ({ target := .collected D, args := #[] } :: ds)) W')
    (hleft : ∀ (D : Nat) (r : World) (Lc : List Blk) (W' : World), k < n → b.w.heap.size ≤ D → Jx Lc → Cl ⟨b.w, r⟩ Lc W' → r.heap[D]? = some (.deferred (some [])) → Q .ret (fr bs us ({ target := .collected D, args := #[] } :: ds)) W') :
    CW (some none) 0 P (Code.rangeFunc g ps assign body) Q (fr bs us ds) W := by
  refine wpIn_rangeFunc ?_
  intro fn hfn
  obtain ⟨rec, hrec⟩ : ∃ rec : LoopState → Option Code → Loop, rec = fun st pe => { state := st, pending := pe, fn, tmps := (fr bs us ds).tmps, params := ps, assign, body, defers := W.heap.size } := ⟨_, rfl⟩
  obtain ⟨W1, hW1⟩ : ∃ W1, (W.alloc (.deferred (some []))).alloc (.loop (rec .ready none)) = W1 := ⟨_, rfl⟩
  have hL1 : W1.heap[W.heap.size + 1]? = some (.loop (rec .ready none)) := by
    rw [← hW1]; have := World.alloc_heap_new (W.alloc (.deferred (some []))) (.loop (rec .ready none)); rwa [World.size_alloc] at this
  have hK1 : W1.heap[W.heap.size]? = some (.deferred (some [])) := by
    rw [← hW1]; exact (Below.heap_alloc _ _ _ (by simp)).trans (World.alloc_heap_new W _)
  have hb1 : Below W.heap.size W W1 := by
    rw [← hW1]; exact ((Below.refl _ W).alloc (Nat.le_refl _) _).alloc (by simp) _
  have hC1 := hW.rebase hb1
  have hsz := hW.below.size
  refine ⟨W.heap.size + 1, [{ target := .collected W.heap.size, args := #[] }], W1, { target := .fn (.func gf) lb, args := #[.func (.yield (W.heap.size + 1)) #[] #[]] }, W1, gf,
    #[.func (.yield (W.heap.size + 1)) #[] #[]] ++ lb, W1, ?_, ?_, fun _ _ => trivial, ?_, fun h => RF_depth none h, ?_⟩
  · rw [← hW1, hrec]; exact run_enterLoop_outer _ _ _ _ _
  · rw [eval_ev]; simp only [resolve, hg]
    simp [go_sem]
    rfl
  · simp [invoke, go_sem, en _ W1]
  · refine (hI W1 (W.heap.size + 1) k J (fun W' => ∃ Lc', Jx Lc' ∧ Cl ⟨b.w, W'⟩ Lc' W' ∧ (∃ rc, W'.heap[W.heap.size + 1]? = some (.loop rc) ∧ rc.state ≠ .busy ∧ rc.pending = some .ret) ∧ W'.heap[W.heap.size]? = some (.deferred (some []))) L W1 hkn ?_ ?_ h0 hC1).mono ?_
    · intro i Lc W2 hi hj hcl
      have hl := hcl.oth _ _ hL1 rfl
      have hy := run_yield (P := P) (args := enc i) hl (by rw [hrec]; exact hps i)
      rw [hrec] at hy
      refine ⟨fn, _, assign, body, hy, roundIn_of_wpIn hfn ((hE i) ▸ wpIn_mono (hassign (W.heap.size + 1) i W2) ?_)⟩
      intro e a W3 he
      cases e with
      | normal =>
        obtain ⟨rfl, rfl⟩ := he
        refine ⟨_, run_beginRound hl (by rw [hrec]), ?_⟩
        have hlt : W.heap.size + 1 < W3.heap.size := (Array.getElem?_eq_some_iff.1 hl).1
        have hl2 : (W3.putObj (W.heap.size + 1) (.loop { rec .ready none with state := .busy })).heap[W.heap.size + 1]? = some (.loop { rec .ready none with state := .busy }) := World.putObj_heap_same hlt
        refine wpIn_mono (hbody (W.heap.size + 1) _ i Lc _ hi hj (hcl.put _ hl rfl (by show b.w.heap.size ≤ _; omega))) ?_
        rintro e a W4 ⟨rfl, Lc', hj', h4⟩
        have hl4 := h4.oth _ _ hl2 rfl
        refine ⟨_, _, run_endRound none hl4, rfl, Lc', hj', ?_⟩
        have h5 := h4.put (.loop (rec .ready none)) hl4 rfl (by show b.w.heap.size ≤ _; omega)
        have hpo : (W4.putObj (W.heap.size + 1) (.loop { ({ rec .ready none with state := .busy } : Loop) with state := if (none : Option Code).isNone then .ready else .done, pending := none })) = W4.putObj (W.heap.size + 1) (.loop (rec .ready none)) := by rw [hrec]; rfl
        rw [hpo]
        refine ⟨h5.below, h5.holds, h5.own, h5.apart, fun k o hk ho => ?_⟩
        by_cases hkl : k = W.heap.size + 1
        · subst hkl
          have hk' : W1.heap[W.heap.size + 1]? = some o := hk
          rw [hL1] at hk'
          rw [← hk']
          exact World.putObj_heap_same (Array.getElem?_eq_some_iff.1 hl4).1
        · refine (World.putObj_heap_other hkl).trans (h4.oth k o ?_ ho)
          exact (World.putObj_heap_other hkl).trans (hcl.oth k o hk ho)
      | _ => exact he.elim
    · intro Lc W2 hi hj hcl
      have hl := hcl.oth _ _ hL1 rfl
      have hy := run_yield (P := P) (args := enc k) hl (by rw [hrec]; exact hps k)
      rw [hrec] at hy
      refine ⟨fn, _, assign, body, hy, roundIn_of_wpIn hfn ((hE k) ▸ wpIn_mono (hassign (W.heap.size + 1) k W2) ?_)⟩
      intro e a W3 he
      cases e with
      | normal =>
        obtain ⟨rfl, rfl⟩ := he
        refine ⟨_, run_beginRound hl (by rw [hrec]), ?_⟩
        have hlt : W.heap.size + 1 < W3.heap.size := (Array.getElem?_eq_some_iff.1 hl).1
        have hk3 := hcl.oth _ _ hK1 rfl
        have hl2 : (W3.putObj (W.heap.size + 1) (.loop { rec .ready none with state := .busy })).heap[W.heap.size + 1]? = some (.loop { rec .ready none with state := .busy }) := World.putObj_heap_same hlt
        have hk2 : (W3.putObj (W.heap.size + 1) (.loop { rec .ready none with state := .busy })).heap[W.heap.size]? = some (.deferred (some [])) := (World.putObj_heap_other (by omega)).trans hk3
        refine wpIn_mono (hstop (W.heap.size + 1) _ Lc _ hi hj (hcl.put _ hl rfl (by show b.w.heap.size ≤ _; omega))) ?_
        rintro e a W4 ⟨rfl, Lc', hj', h4⟩
        have hl4 := h4.oth _ _ hl2 rfl
        have hk4 := h4.oth _ _ hk2 rfl
        have hlt4 : W.heap.size + 1 < W4.heap.size := (Array.getElem?_eq_some_iff.1 hl4).1
        refine ⟨_, _, run_endRound (some .ret) hl4, rfl, Lc', hj', h4.put _ hl4 rfl (by show b.w.heap.size ≤ _; omega), ⟨_, World.putObj_heap_same hlt4, by simp, rfl⟩, (World.putObj_heap_other (by omega)).trans hk4⟩
      | _ => exact he.elim
    · rintro e W3 ⟨⟨v, rfl⟩, ⟨hk', Lc', hj', h3⟩ | ⟨hk', Lc', hj', h3, ⟨rc, hl, hbz, hpe⟩, hk⟩⟩
      · have hl := h3.oth _ _ hL1 rfl
        have hk := h3.oth _ _ hK1 rfl
        refine ⟨_, _, run_endLoop hl (by rw [hrec]; simp), ?_⟩
        have hpe : (rec .ready none).pending = none := by rw [hrec]
        rw [hpe]
        exact hdone W.heap.size _ Lc' _ hk' hsz hj' (h3.put _ hl rfl (by show b.w.heap.size ≤ _; omega)) ((World.putObj_heap_other (by omega)).trans hk)
      · refine ⟨_, _, run_endLoop hl hbz, ?_⟩
        rw [hpe]
        exact (show CW (some none) 0 P Code.ret Q (fr bs us ({ target := .collected W.heap.size, args := #[] } :: ds)) _ from c_ret (hleft W.heap.size _ Lc' _ hk' hsz hj' (h3.put _ hl rfl (by show b.w.heap.size ≤ _; omega)) ((World.putObj_heap_other (by omega)).trans hk)))

variable {fn : Func}
theorem iterS_of {w : World} {gf : FuncId} {c : Code} {lb : List Value} {n : Nat} {enc : Nat → Array Value} {F : Nat → List Value} (hf : P.funcs[gf]? = some fn) (hb : fn.body = some c) (hl : ∀ l, [Value.func (.yield l) #[] #[]] ++ lb ++ List.replicate (fn.ntmps - (lb.length + 1)) undef = F l)
    (h : ∀ (r : World) (l k : Nat) (J : Nat → List Blk → Prop) (Z : World → Prop) (L0 : List Blk) (W : World), k ≤ n →
      (∀ (i : Nat) (Lc : List Blk) (W : World), i < k → J i Lc → Cl ⟨w, r⟩ Lc W → YieldAt Fence.wide 0 P l (enc i) W fun e W' => e = .returned (.bool true) ∧ ∃ Lc', J (i + 1) Lc' ∧ Cl ⟨w, r⟩ Lc' W') →
      (∀ (Lc : List Blk) (W : World), k < n → J k Lc → Cl ⟨w, r⟩ Lc W → YieldAt Fence.wide 0 P l (enc k) W fun e W' => e = .returned (.bool false) ∧ Z W') →
      J 0 L0 → Cl ⟨w, r⟩ L0 W → CW (some none) 0 P c (bodyPostM Fence.wide 0 P fn (fun e W' => (∃ v, e = .returned v) ∧ ((k = n ∧ ∃ Lc', J n Lc' ∧ Cl ⟨w, r⟩ Lc' W') ∨ (k < n ∧ Z W')))) (fr (F l) [] []) W) : IterS P w gf lb.toArray n enc := fun r l k J Z L0 W hk hY hZ h0 hW => by
  refine callsIn_of_wp_marks hf hb trivial ?_
  have e : #[Value.func (.yield l) #[] #[]] ++ lb.toArray ++ Array.replicate (fn.ntmps - (#[Value.func (.yield l) #[] #[]] ++ lb.toArray).size) undef = (F l).toArray := by
    rw [← hl]; simp
  rw [e]
  exact h r l k J Z L0 W hk hY hZ h0 hW
variable {w0 : Base} {r : Option (Option Nat)} {R' : Ending → World → Prop}
theorem run_callB {f : FuncId} {x : Operand} {xs : Array Operand} {ts : Array TypeId} {args bnd : List Value} (he : Enters P f) (ho : o.op = .call { callee := .value x, args := xs, argTypes := ts }) (hx : ev bs us x = .func (.func f) bnd.toArray #[]) (ha : xs.toList.map (ev bs us) = args) (w : World) :
    (execOp (ev bs us) o).run P w = .ok (.enter f (bnd ++ args).toArray) w := by
  have e : xs.map (ev bs us) = args.toArray := by subst ha; apply Array.ext'; simp only [Array.toList_map]
  unfold execOp
  have e2 : bnd.toArray ++ args.toArray ++ (#[] : Array Value) = (bnd ++ args).toArray := by simp
  simp only [ho, resolve, e, hx, Deferred.ofValue, Sem.run_bind, Sem.run_pure, Result.andThen_ok, invoke, e2]
  exact he _ w
theorem r_bound {f : Fn} {cs : Array Operand} {vs : List Value} (ho : o.op = .makeFunc f cs #[]) (hc : cs.toList.map (ev bs us) = vs) : Runs P bs us o (.func f vs.toArray #[]) :=
  r_makeFunc ho (by subst hc; apply Array.ext'; simp only [Array.toList_map]) (by simp)
/-- a call of a function that holds its first arguments -/
theorem l_callB (hW : Cl w0 L W) {f : FuncId} {x : Operand} {xs : Array Operand} {ts : Array TypeId} {args bnd : List Value} (hgv : Gives P f (bnd ++ args).toArray v) (he : Enters P f) (hg : o.guard = none) (ho : o.op = .call { callee := .value x, args := xs, argTypes := ts }) (hx : ev bs us x = .func (.func f) bnd.toArray #[]) (ha : xs.toList.map (ev bs us) = args) (hd : o.dst = some d)
    (h : ∀ W', Cl w0 L W' → LW r m P ops Q rest (fr bs ((d, v) :: us) ds) W') : LW r m P ops Q (o :: rest) (fr bs us ds) W :=
  l_enter hg (run_callB he ho hx ha) hd ((hgv W).mono fun _ w ⟨he, hb⟩ => ⟨v, he, h w (hW.past hb)⟩)
theorem ret_cellC {p : Tmp} {t : TypeId} {g : Nat} {ty : TypeId} (hW : Cl w0 L W) (q : Nat) (ht : TyC P t) (hr : fn.results = #[.cell p t]) (hp : look bs us p = .pointer (some ⟨g, 0, none⟩)) (hL : L[q]? = some ⟨g, [v], ty⟩)
    (h : R' (.returned v) W) : bodyPost P fn R' .ret (fr bs us []) W := by
  refine ⟨rfl, _, ?_, h⟩
  have hc : W.cell? ⟨g, 0, none⟩ = some v := (cell_at (hW.at q hL) 0).trans rfl
  have h2 : (toL bs us).toArray.getD p undef = .pointer (some ⟨g, 0, none⟩) := by rw [nth_getD, ← look_nth]; exact hp
  show (results fn (toL bs us).toArray).run P W = _
  rw [Array.getD_eq_getD_getElem?] at h2
  simp at h2
  simp [results, hr, asAddr, loadVar, ht.agg W, hc, h2]
end
end Go.Proofs.YtoegpalacppllaaGreat

/- Lists of members, in memory; what a tree is entered with. No function of the program is in sight here. -/
namespace Go.Proofs.YtoegpalacppllaaGreat.Tr
open Hn
/-- the error of entering the tree of a valid scheme with some subsets -/
def entE (s : Sc) (l : List (Int × Int)) : Int := if (List.range l.length).all (fun i => subB s (qn l i) (qm l i)) then 0 else 31
theorem entE_no {s : Sc} {l : List (Int × Int)} {i : Nat} (hi : i < l.length) (hb : subB s (qn l i) (qm l i) = false) : entE s l = 31 := by
  rw [entE, if_neg]
  intro e
  have := List.all_eq_true.1 e i (List.mem_range.2 hi)
  simp only [hb] at this
  cases this
theorem entE_yes {s : Sc} {l : List (Int × Int)} (hb : ∀ i, i < l.length → subB s (qn l i) (qm l i) = true) : entE s l = 0 := if_pos (List.all_eq_true.2 fun i hi => hb i (List.mem_range.1 hi))
theorem entE_one (s : Sc) (v x : Int) : entE s [(v, x)] = if subB s v x then 0 else 31 := by
  cases h : subB s v x with
  | true =>
    refine entE_yes fun i hi => ?_
    obtain rfl : i = 0 := by simpa using hi
    exact h
  | false => exact entE_no (i := 0) (by simp) h
theorem sub_x {s : Sc} {v x : Int} (hs : s.d ≤ 6) (h : subB s v x = true) : 1 ≤ v ∧ v < 128 ∧ 0 ≤ x ∧ x < 128 := by
  obtain ⟨h1, h2, h3, h4⟩ := sub_parts h
  have hv := node_lt h1 hs
  by_cases hx : x = 0
  · omega
  · have hk : s.k ≠ 1 := fun e => hx (h2 e)
    have := node_lt (h4 hk hx).1 hs
    omega
/-- the members of each of some subsets -/
def mems (s : Sc) (l : List (Int × Int)) : List (List Int) := l.map fun x => membersN s x.1 x.2 (p2 s.d.toNat)
theorem mems_get {s : Sc} {l : List (Int × Int)} {i : Nat} (hi : i < l.length) : (mems s l)[i]? = some (membersN s (qn l i) (qm l i) (p2 s.d.toNat)) := by
  simp [mems, qn, qm, List.getD_eq_getElem?_getD, hi]
theorem mems_len (s : Sc) (l : List (Int × Int)) : (mems s l).length = l.length := by simp [mems]
end Go.Proofs.YtoegpalacppllaaGreat.Tr
namespace Go.Proofs.YtoegpalacppllaaGreat
open Go.RowKit Pl Tr Hn
/-- the tree with which a valid scheme is entered -/
def entT (s : Sc) (l : List (Int × Int)) : List Value := if entE s l = 0 then [.int .u8 s.k, .int .i64 s.d, .int .i64 (strideN s.d : Int)] else [.int .u8 0, .int .i64 0, .int .i64 0]
theorem entT_no {s : Sc} {l : List (Int × Int)} (h : entE s l = 31) : entT s l = [.int .u8 0, .int .i64 0, .int .i64 0] := if_neg (by rw [h]; decide)
theorem entT_yes {s : Sc} {l : List (Int × Int)} (h : entE s l = 0) : entT s l = [.int .u8 s.k, .int .i64 s.d, .int .i64 (strideN s.d : Int)] := if_pos h
theorem entT_len (s : Sc) (l : List (Int × Int)) : (entT s l).length = 3 := by unfold entT; split <;> rfl
theorem entT_one (s : Sc) (l : List (Int × Int)) : ∀ v ∈ entT s l, v.oneCell' = true := by
  unfold entT
  split <;> (intro v hv; simp at hv; rcases hv with rfl | rfl | rfl <;> rfl)
/-- one subset, in a row -/
theorem RdB.one {w0 : Base} {W : World} {L : List Blk} (hW : Cl w0 L W) (p : Nat) {g : Nat} {ty : TypeId} {v x : Int} (hp : L[p]? = some ⟨g, [.int .i64 v, .int .i64 x], ty⟩) : RdB W ⟨some ⟨g, 0, none⟩, 1, 1⟩ [(v, x)] :=
  ⟨⟨Nat.le_refl _, fun h => by cases h⟩, rfl, hW.rd (g := g) (cs := [.int .i64 v, .int .i64 x]) p hp 0 2 rfl⟩
theorem NewSs.one {ss : List Sl} {ps : List (List Int)} {N M K : List Blk} {s0 : Sl} {l0 : List Int} (h : NewSs ss ps N) (f0 : ps[ss.length]? = some l0) (n0 : NewI s0 l0 M) (h1 : List.Sublist N K) (h2 : List.Sublist M K) : NewSs (ss ++ [s0]) ps K := fun k s hk => by
  rcases Nat.lt_or_ge k ss.length with hlt | hge
  · rw [List.getElem?_append_left hlt] at hk
    obtain ⟨l, a, b⟩ := h k s hk
    exact ⟨l, a, b.sub h1⟩
  · rw [List.getElem?_append_right hge] at hk
    have e : k = ss.length := by
      apply Classical.byContradiction
      intro hn
      rw [List.getElem?_eq_none (by simp; omega)] at hk
      cases hk
    subst e
    simp only [Nat.sub_self, List.getElem?_cons_zero, Option.some.injEq] at hk
    subst hk
    exact ⟨l0, f0, n0.sub h2⟩
/-- a row of lists of the call's own -/
theorem RdG.of {e : TypeId} {a : Option Addr} {n c : Nat} {ss : List Sl} {gs : List (List Int)} {R N K : List Blk} (hO : OwnSl e 1 a n c (ss.map Sl.v) R) (hN : NewSs ss gs N) (hl : ss.length = gs.length) (h1 : List.Sublist R K) (h2 : List.Sublist N K) : Rep K fun W => RdG W ⟨a, n, c⟩ ss gs := fun b W hW => by
  have hn : n = ss.length := by have := hO.1; rw [List.length_map] at this; omega
  refine ⟨⟨⟨?_, fun h => (hO.nilOf h).2⟩, rfl, OwnSl.rd (L := []) hO (by simpa using hW.sub h1)⟩, hn, hl, fun i t l ht hg => ?_⟩
  · rcases hO.2 with ⟨_, h1, h2, _⟩ | ⟨g, cur, _, _, h1, _⟩
    · simp [h1]
    · exact h1
  · obtain ⟨l', hl', hn'⟩ := hN i t ht
    rw [hg] at hl'
    injection hl' with hl'
    subst hl'
    exact hn'.rep.at hW h2
theorem permS {α : Type} {a : α} {X R N M : List α} : (a :: ((X ++ (R ++ N)) ++ M)).Perm ((a :: (X ++ (N ++ M))) ++ R) := by
  show (a :: ((X ++ (R ++ N)) ++ M)).Perm (a :: ((X ++ (N ++ M)) ++ R))
  refine List.Perm.cons _ ?_
  rw [List.append_assoc, List.append_assoc X, List.append_assoc]
  exact List.Perm.append_left _ List.perm_append_comm
end Go.Proofs.YtoegpalacppllaaGreat

/- Receivers of subsets, by the reference. -/
namespace Go.Proofs.YtoegpalacppllaaGreat
open Go.RowKit Pl
open Tr Hn
set_option maxRecDepth 10000 in
/-- headend/headendref03.Has -/
theorem g_rHas (s : Sc) (v x : Int) (u : Nat) (hs : schB s = true) (hx : subB s v x = true) (hu : u < p2 s.d.toNat) : Gives Tryz.prog 120 [.agg [.int .u8 s.k, .int .i64 s.d, .int .i64 s.g, .int .u64 s.p, .int .u64 s.q, .int .u64 s.r].toArray, .agg [.int .i64 v, .int .i64 x].toArray, .int .i64 (u : Int)].toArray (.bool (memB s v x u)) := by
 refine gives_of Tryz.func120 rfl (bs := [.agg [.int .u8 s.k, .int .i64 s.d, .int .i64 s.g, .int .u64 s.p, .int .u64 s.q, .int .u64 s.r].toArray, .agg [.int .i64 v, .int .i64 x].toArray, .int .i64 (u : Int), undef, undef, undef, undef, undef, undef, undef, undef, undef, undef, undef, undef, undef, undef, undef, undef, undef, undef, undef, undef, undef, undef, undef, undef, undef, undef]) rfl ?_
 intro w hW
 obtain ⟨k1, k3, d0, d6, -⟩ := schB_iff.1 hs
 have hp := p2_le (n := s.d.toNat) (by omega)
 have hp0 := p2_pos s.d.toNat
 obtain ⟨hx1, hx2, hx3, hx4⟩ := sub_x d6 hx
 refine c_seq (c_reg ?_)
 refine xB hW ?_
 intro g1 W hW
 refine xB hW ?_
 intro g2 W hW
 refine bB ?_
 refine l_end (n_then (c_seq (c_reg ?_)))
 refine l_val (r_fieldAddr 1 Tryz.underlying26 rfl tyC3.size rfl rfl rfl) rfl rfl ?_
 refine dC hW 1 tyC3 ?_
 refine l_call hW (g_Receivers _ (by omega) (by omega)) en119 rfl rfl rfl rfl ?_
 intro W hW
 refine aI ?_
 refine l_val (r_addN rfl rfl rfl (by omega)) rfl rfl ?_
 refine bI ?_
 refine l_end (n_then (c_seq (c_reg ?_)))
 refine aI ?_
 refine l_val (r_fieldAddr 0 Tryz.underlying64 rfl tyC3.size rfl rfl rfl) rfl rfl ?_
 refine dC hW 0 tyC3 ?_
 refine l_call hW (g_rBelowZ ((p2 s.d.toNat + u : Nat) : Int) v (by omega) (by omega) (by omega) (by omega)) en155 rfl rfl rfl rfl ?_
 intro W hW
 refine l_split ?_ ?_
 ·intro hc1
  refine aB ?_
  refine l_valG (r_fieldAddr 1 Tryz.underlying64 rfl tyC3.size rfl rfl rfl) (by kernel_rfl) rfl ?_
  refine dG hW 0 tyC3 ?_
  refine l_valG (r_eql rfl rfl rfl rfl) (by kernel_rfl) rfl ?_
  refine l_split ?_ ?_
  ·intro hc2
   replace hc2 := of_decide_eq_true hc2
   refine l_valG (r_move (v := .bool _) rfl rfl) (by kernel_rfl) rfl ?_
   refine lN ?_
   refine lN ?_
   refine lN ?_
   refine lN ?_
   refine lN ?_
   refine l_valG (r_pick (v := .bool _) rfl rfl rfl) (by kernel_rfl) rfl ?_
   refine kB ?_
   refine bB ?_
   refine l_end (n_then (c_ret ?_))
   refine ret_tmp (v := .bool (memB s v x u)) rfl ?_ ⟨rfl, hW.below⟩
   exact congrArg Value.bool (by rw [memB, show belowN (p2 s.d.toNat + u) v.toNat = true from hc1, decide_eq_true (show x = 0 by omega)]; rfl)
  ·intro hc2
   replace hc2 := of_decide_eq_false hc2
   refine l_valG (r_move (v := .bool _) rfl rfl) (by kernel_rfl) rfl ?_
   refine gI ?_
   refine l_valG (r_fieldAddr 1 Tryz.underlying64 rfl tyC3.size rfl rfl rfl) (by kernel_rfl) rfl ?_
   refine dG hW 0 tyC3 ?_
   refine l_callG hW (g_rBelowZ ((p2 s.d.toNat + u : Nat) : Int) x (by omega) (by omega) (by omega) (by omega)) en155 (by kernel_rfl) rfl rfl rfl ?_
   intro W hW
   refine l_valG (r_not rfl rfl) (by kernel_rfl) rfl ?_
   refine l_valG (r_pick (v := .bool _) rfl rfl rfl) (by kernel_rfl) rfl ?_
   refine kB ?_
   refine bB ?_
   refine l_end (n_then (c_ret ?_))
   refine ret_tmp (v := .bool (memB s v x u)) rfl ?_ ⟨rfl, hW.below⟩
   exact congrArg Value.bool (by rw [memB, show belowN (p2 s.d.toNat + u) v.toNat = true from hc1, decide_eq_false (show ¬ x = 0 by omega)]; rfl)
 ·intro hc1
  refine aB ?_
  refine lN ?_
  refine lN ?_
  refine lN ?_
  refine lN ?_
  refine lN ?_
  refine lN ?_
  refine lN ?_
  refine lN ?_
  refine lN ?_
  refine lN ?_
  refine kB ?_
  refine bB ?_
  refine l_end (n_then (c_ret ?_))
  refine ret_tmp (v := .bool (memB s v x u)) rfl ?_ ⟨rfl, hW.below⟩
  exact congrArg Value.bool (by rw [memB, show belowN (p2 s.d.toNat + u) v.toNat = false from hc1]; rfl)

end Go.Proofs.YtoegpalacppllaaGreat

/- Lists of subsets, by the reference. -/
namespace Go.Proofs.YtoegpalacppllaaGreat
open Go.RowKit Pl
open Tr Hn
set_option maxRecDepth 10000 in
/-- headend/headendref08.subsets -/
theorem g_rsubsets (s : Sc) (ba : Option Addr) (bn bc : Nat) (l : List (Int × Int)) (hs : schB s = true) (hl : l.length ≤ 100) : GivesR Tryz.prog 118 [.agg [.int .u8 s.k, .int .i64 s.d, .int .i64 s.g, .int .u64 s.p, .int .u64 s.q, .int .u64 s.r].toArray, .slice ba bn bc].toArray (fun w => RdB w ⟨ba, bn, bc⟩ l) (.int .i64 (subsE s l)) := by
 refine givesR_of Tryz.func118 rfl (bs := [.agg [.int .u8 s.k, .int .i64 s.d, .int .i64 s.g, .int .u64 s.p, .int .u64 s.q, .int .u64 s.r].toArray, .slice ba bn bc, undef, undef, undef, undef, undef, undef, undef, undef, undef, undef, undef, undef, undef, undef, undef, undef, undef, undef, undef, undef]) rfl ?_
 intro w hP hW
 have hn : bn = l.length := hP.len
 refine c_seq (c_reg ?_)
 refine xB hW ?_
 intro g1 W hW
 refine bI ?_
 refine l_end (n_then (c_seq (c_seq (c_reg ?_))))
 refine aS ?_
 refine l_val (r_lenSlice Tryz.underlying33 rfl rfl) rfl rfl ?_
 refine l_val (r_gtrN (n := 64) rfl rfl rfl rfl) rfl rfl ?_
 refine l_split ?_ ?_
 ·intro hc1
  replace hc1 := of_decide_eq_true hc1
  refine l_end (n_then ?_)
  refine c_true rfl ?_
  refine c_seq (c_reg ?_)
  refine bI ?_
  refine l_end (n_then (c_ret (r_then ?_)))
  refine ret_tmp (v := .int .i64 (subsE s l)) rfl ?_ ⟨rfl, hW.below⟩
  rw [subsE_many (by omega)]; rfl
 ·intro hc1
  replace hc1 := of_decide_eq_false hc1
  refine l_end (n_then ?_)
  refine c_false rfl ?_
  refine c_skip (n_then (c_seq (c_seq (c_reg ?_))))
  refine bI ?_
  refine l_end (n_then (c_block ?_))
  refine c_loop (fun (i : Nat) (j : Nat → Value) => [.agg [.int .u8 s.k, .int .i64 s.d, .int .i64 s.g, .int .u64 s.p, .int .u64 s.q, .int .u64 s.r].toArray, .slice ba bn bc, .pointer (some ⟨g1, 0, none⟩), j 3, j 4, .int .i64 (i : Int), .slice ba bn bc, j 7, .bool false, j 9, j 10, j 11, j 12, j 13, j 14, j 15, j 16, j 17, j 18, j 19, j 20, j 21]) (fun (i : Nat) => [⟨g1, [.int .u8 s.k, .int .i64 s.d, .int .i64 s.g, .int .u64 s.p, .int .u64 s.q, .int .u64 s.r], 26⟩]) (fun (i : Nat) => i ≤ bn ∧ ∀ k, k < i → subB s (qn l k) (qm l k) = true) (fun (i : Nat) => bn - i) 0 (by kernel_rfl) hW ⟨by omega, all_zero⟩ ?_
  intro i j W hx hW
  refine c_seq (c_seq (c_reg ?_))
  refine aI ?_
  refine aS ?_
  refine l_val (r_lenSlice Tryz.underlying33 rfl rfl) rfl rfl ?_
  refine l_val (r_lssN rfl rfl rfl rfl) rfl rfl ?_
  refine l_split ?_ ?_
  ·intro hc2
   replace hc2 := of_decide_eq_true hc2
   obtain ⟨b0, o0, ha, hc⟩ := hP.ptr (by omega)
   simp only at ha
   subst ha
   refine l_end (n_then ?_)
   refine c_true rfl ?_
   refine c_skip (n_then (c_seq (c_block (c_seq ?_))))
   refine c_regY hW [] [.q, .q, .q, .q, .q, .q, .q] [0, 0, 0, 6, 14, 31, 63] (by kernel_rfl) (by kernel_rfl) ?_
   refine y_loadA 0 tyA26 rfl rfl rfl rfl rfl (by first | rfl | exact kc_len _ | exact kcf_len _ | exact boC_len _ _ | (simp; done)) (by decide) ?_
   refine yS ?_
   refine yI ?_
   refine y_val (r_indexAddrSlB (n := i) Tryz.underlying33 tyA64.size rfl rfl rfl (by omega)) rfl rfl ?_
   refine y_loadF2 tyA64 (hc i (by omega)).1 (hc i (by omega)).2 (by kernel_rfl) rfl rfl rfl ?_
   refine y_call (g_rIsSubset _ _ _ hs) en154 rfl rfl rfl rfl ?_
   refine y_split ?_ ?_
   ·intro hc3
    refine y_val (r_not rfl rfl) rfl rfl ?_
    refine y_end ?_
    intro W hW
    refine n_then ?_
    refine c_false rfl ?_
    refine c_skip (n_block (n_then (c_reg ?_)))
    refine aI ?_
    refine l_val (r_addN (n := 1) rfl rfl rfl (by omega)) rfl rfl ?_
    refine bI ?_
    refine l_end (n_then ?_)
    exact loop_next (i + 1) (by kernel_rfl) hW ⟨by omega, all_upto hx.2 (by simpa using hc3)⟩ (by omega)
   ·intro hc3
    refine y_val (r_not rfl rfl) rfl rfl ?_
    refine y_end ?_
    intro W hW
    refine n_then ?_
    refine c_true rfl ?_
    refine c_seq (c_reg ?_)
    refine bI ?_
    refine l_end (n_then (c_ret (r_block (r_then (r_then (r_block (r_then ?_)))))))
    refine ret_tmp (v := .int .i64 (subsE s l)) rfl ?_ ⟨rfl, hW.below⟩
    rw [subsE_no (i := i) (by omega) (by omega) hc3]; rfl
  ·intro hc2
   replace hc2 := of_decide_eq_false hc2
   refine l_end (n_then ?_)
   refine c_false rfl ?_
   refine c_exit (x_then (x_then ?_))
   refine x_hit ?_
   refine n_then (c_seq (c_reg ?_))
   refine bI ?_
   refine l_end (n_then (c_ret ?_))
   refine ret_tmp (v := .int .i64 (subsE s l)) rfl ?_ ⟨rfl, hW.below⟩
   rw [subsE_yes (by omega) fun k hk => hx.2 k (by omega)]; rfl

end Go.Proofs.YtoegpalacppllaaGreat

/- Whether a box is valid. -/
namespace Go.Proofs.YtoegpalacppllaaGreat
open Go.RowKit Pl
open Tr Hn
set_option maxRecDepth 10000 in
/-- headend/headendref08.CheckBox -/
theorem g_rCheckBox (b : Bo) (t : Sl) (hl : b.l.length ≤ 100) : GivesR Tryz.prog 74 [.agg (boC b t).toArray].toArray (fun w => RdI w t b.l) (.int .i64 (chkB b)) := by
 refine givesR_of Tryz.func74 rfl (bs := [.agg (boC b t).toArray, undef, undef, undef, undef, undef, undef, undef, undef, undef, undef, undef, undef, undef, undef, undef, undef, undef, undef, undef, undef, undef, undef, undef, undef, undef, undef, undef, undef, undef, undef, undef, undef, undef, undef, undef, undef, undef, undef, undef, undef, undef, undef, undef, undef, undef, undef, undef, undef, undef, undef, undef, undef, undef, undef, undef, undef, undef, undef, undef, undef, undef, undef, undef, undef, undef, undef]) rfl ?_
 intro w hP hW
 refine c_seq (c_reg ?_)
 refine xB hW ?_
 intro g1 W hW
 refine bI ?_
 refine l_end (n_then (c_seq (c_seq (c_reg ?_))))
 refine l_val (r_fieldAddr 0 Tryz.underlying31 rfl tyA26.size rfl rfl rfl) rfl rfl ?_
 refine l_loadP hW 0 tyA26 rfl rfl rfl rfl rfl (by first | rfl | omega | (simp; done) | (simp; omega)) rfl ?_
 refine l_call hW (g_rCheck _) en116 rfl rfl rfl rfl ?_
 intro W hW
 refine bI ?_
 refine l_end (n_then (c_seq (c_reg ?_)))
 refine aI ?_
 refine l_val (r_neq rfl rfl rfl rfl) rfl rfl ?_
 refine l_split ?_ ?_
 ·intro hc1
  replace hc1 := of_decide_eq_true hc1
  have hs := chk_bad hc1
  refine l_end (n_then ?_)
  refine c_true rfl ?_
  refine c_seq (c_reg ?_)
  refine aI ?_
  refine bI ?_
  refine l_end (n_then (c_ret (r_then ?_)))
  refine ret_tmp (v := .int .i64 (chkB b)) rfl ?_ ⟨rfl, hW.below⟩
  exact congrArg (Value.int .i64) ((chk_no hs).trans (chkB_s hs).symm)
 ·intro hc1
  replace hc1 := of_decide_eq_false hc1
  have hs := chk_zero hc1
  obtain ⟨k1, k3, d0, d6, -⟩ := schB_iff.1 hs
  have hp := p2_le (n := b.s.d.toNat) (by omega)
  refine l_end (n_then ?_)
  refine c_false rfl ?_
  refine c_skip (n_then (c_seq (c_seq (c_reg ?_))))
  refine l_val (r_fieldAddr 0 Tryz.underlying31 rfl tyA26.size rfl rfl rfl) rfl rfl ?_
  refine l_val (r_fieldAddr 1 Tryz.underlying26 rfl tyC3.size rfl rfl rfl) rfl rfl ?_
  refine dC hW 0 tyC3 ?_
  refine l_val (r_fieldAddr 6 Tryz.underlying31 rfl tyC27.size rfl rfl rfl) rfl rfl ?_
  refine dC hW 0 tyC27 ?_
  refine l_callR hW (g_rIsList b.s.d d0 d6 t.a t.n t.c b.l (by omega)) en117 (hP.past hW.below) rfl rfl rfl rfl ?_
  intro W hW
  refine l_split ?_ ?_
  ·intro hc2
   refine l_val (r_not rfl rfl) rfl rfl ?_
   refine aB ?_
   refine l_valG (r_fieldAddr 7 Tryz.underlying31 rfl tyC5.size rfl rfl rfl) (by kernel_rfl) rfl ?_
   refine dG hW 0 tyC5 ?_
   refine l_valG (r_lss rfl rfl rfl rfl) (by kernel_rfl) rfl ?_
   refine l_split ?_ ?_
   ·intro hc3
    replace hc3 := of_decide_eq_true hc3
    refine kB ?_
    refine aB ?_
    refine lN ?_
    refine lN ?_
    refine lN ?_
    refine kB ?_
    refine aB ?_
    refine lN ?_
    refine lN ?_
    refine lN ?_
    refine kB ?_
    refine aB ?_
    refine lN ?_
    refine lN ?_
    refine lN ?_
    refine kB ?_
    refine aB ?_
    refine lN ?_
    refine lN ?_
    refine lN ?_
    refine kB ?_
    refine aB ?_
    refine lN ?_
    refine lN ?_
    refine lN ?_
    refine kB ?_
    refine l_end (n_then ?_)
    refine c_true rfl ?_
    refine c_seq (c_reg ?_)
    refine bI ?_
    refine l_end (n_then (c_ret (r_then ?_)))
    refine ret_tmp (v := .int .i64 (chkB b)) rfl ?_ ⟨rfl, hW.below⟩
    rw [chkB_n hs (by omega)]; rfl
   ·intro hc3
    replace hc3 := of_decide_eq_false hc3
    refine kB ?_
    refine aB ?_
    refine l_valG (r_fieldAddr 7 Tryz.underlying31 rfl tyC5.size rfl rfl rfl) (by kernel_rfl) rfl ?_
    refine dG hW 0 tyC5 ?_
    refine l_valG (r_gtr rfl rfl rfl rfl) (by kernel_rfl) rfl ?_
    refine l_split ?_ ?_
    ·intro hc4
     replace hc4 := of_decide_eq_true hc4
     refine kB ?_
     refine aB ?_
     refine lN ?_
     refine lN ?_
     refine lN ?_
     refine kB ?_
     refine aB ?_
     refine lN ?_
     refine lN ?_
     refine lN ?_
     refine kB ?_
     refine aB ?_
     refine lN ?_
     refine lN ?_
     refine lN ?_
     refine kB ?_
     refine aB ?_
     refine lN ?_
     refine lN ?_
     refine lN ?_
     refine kB ?_
     refine l_end (n_then ?_)
     refine c_true rfl ?_
     refine c_seq (c_reg ?_)
     refine bI ?_
     refine l_end (n_then (c_ret (r_then ?_)))
     refine ret_tmp (v := .int .i64 (chkB b)) rfl ?_ ⟨rfl, hW.below⟩
     rw [chkB_n hs (by omega)]; rfl
    ·intro hc4
     replace hc4 := of_decide_eq_false hc4
     refine kB ?_
     refine aB ?_
     refine l_valG (r_fieldAddr 8 Tryz.underlying31 rfl tyC3.size rfl rfl rfl) (by kernel_rfl) rfl ?_
     refine dG hW 0 tyC3 ?_
     refine l_valG (r_lss rfl rfl rfl rfl) (by kernel_rfl) rfl ?_
     refine l_split ?_ ?_
     ·intro hc5
      replace hc5 := of_decide_eq_true hc5
      refine kB ?_
      refine aB ?_
      refine lN ?_
      refine lN ?_
      refine lN ?_
      refine kB ?_
      refine aB ?_
      refine lN ?_
      refine lN ?_
      refine lN ?_
      refine kB ?_
      refine aB ?_
      refine lN ?_
      refine lN ?_
      refine lN ?_
      refine kB ?_
      refine l_end (n_then ?_)
      refine c_true rfl ?_
      refine c_seq (c_reg ?_)
      refine bI ?_
      refine l_end (n_then (c_ret (r_then ?_)))
      refine ret_tmp (v := .int .i64 (chkB b)) rfl ?_ ⟨rfl, hW.below⟩
      rw [chkB_n hs (by omega)]; rfl
     ·intro hc5
      replace hc5 := of_decide_eq_false hc5
      refine kB ?_
      refine aB ?_
      refine l_valG (r_fieldAddr 8 Tryz.underlying31 rfl tyC3.size rfl rfl rfl) (by kernel_rfl) rfl ?_
      refine dG hW 0 tyC3 ?_
      refine l_valG (r_gtr rfl rfl rfl rfl) (by kernel_rfl) rfl ?_
      refine l_split ?_ ?_
      ·intro hc6
       replace hc6 := of_decide_eq_true hc6
       refine kB ?_
       refine aB ?_
       refine lN ?_
       refine lN ?_
       refine lN ?_
       refine kB ?_
       refine aB ?_
       refine lN ?_
       refine lN ?_
       refine lN ?_
       refine kB ?_
       refine l_end (n_then ?_)
       refine c_true rfl ?_
       refine c_seq (c_reg ?_)
       refine bI ?_
       refine l_end (n_then (c_ret (r_then ?_)))
       refine ret_tmp (v := .int .i64 (chkB b)) rfl ?_ ⟨rfl, hW.below⟩
       rw [chkB_n hs (by omega)]; rfl
      ·intro hc6
       replace hc6 := of_decide_eq_false hc6
       refine kB ?_
       refine aB ?_
       refine l_valG (r_fieldAddr 9 Tryz.underlying31 rfl tyC3.size rfl rfl rfl) (by kernel_rfl) rfl ?_
       refine dG hW 0 tyC3 ?_
       refine l_valG (r_lss rfl rfl rfl rfl) (by kernel_rfl) rfl ?_
       refine l_split ?_ ?_
       ·intro hc7
        replace hc7 := of_decide_eq_true hc7
        refine kB ?_
        refine aB ?_
        refine lN ?_
        refine lN ?_
        refine lN ?_
        refine kB ?_
        refine l_end (n_then ?_)
        refine c_true rfl ?_
        refine c_seq (c_reg ?_)
        refine bI ?_
        refine l_end (n_then (c_ret (r_then ?_)))
        refine ret_tmp (v := .int .i64 (chkB b)) rfl ?_ ⟨rfl, hW.below⟩
        rw [chkB_n hs (by omega)]; rfl
       ·intro hc7
        replace hc7 := of_decide_eq_false hc7
        refine kB ?_
        refine aB ?_
        refine l_valG (r_fieldAddr 9 Tryz.underlying31 rfl tyC3.size rfl rfl rfl) (by kernel_rfl) rfl ?_
        refine dG hW 0 tyC3 ?_
        refine l_valG (r_gtr rfl rfl rfl rfl) (by kernel_rfl) rfl ?_
        refine l_split ?_ ?_
        ·intro hc8
         replace hc8 := of_decide_eq_true hc8
         refine kB ?_
         refine l_end (n_then ?_)
         refine c_true rfl ?_
         refine c_seq (c_reg ?_)
         refine bI ?_
         refine l_end (n_then (c_ret (r_then ?_)))
         refine ret_tmp (v := .int .i64 (chkB b)) rfl ?_ ⟨rfl, hW.below⟩
         rw [chkB_n hs (by omega)]; rfl
        ·intro hc8
         replace hc8 := of_decide_eq_false hc8
         refine kB ?_
         refine l_end (n_then ?_)
         refine c_false rfl ?_
         refine c_skip (n_then (c_seq (c_seq (c_reg ?_))))
         refine l_val (r_fieldAddr 26 Tryz.underlying31 rfl tyC3.size rfl rfl rfl) rfl rfl ?_
         refine dC hW 0 tyC3 ?_
         refine l_val (r_lss rfl rfl rfl rfl) rfl rfl ?_
         refine l_split ?_ ?_
         ·intro hc9
          replace hc9 := of_decide_eq_true hc9
          refine aB ?_
          refine lN ?_
          refine lN ?_
          refine lN ?_
          refine kB ?_
          refine aB ?_
          refine lN ?_
          refine lN ?_
          refine lN ?_
          refine kB ?_
          refine aB ?_
          refine lN ?_
          refine lN ?_
          refine lN ?_
          refine lN ?_
          refine lN ?_
          refine kB ?_
          refine l_end (n_then ?_)
          refine c_true rfl ?_
          refine c_seq (c_reg ?_)
          refine bI ?_
          refine l_end (n_then (c_ret (r_then ?_)))
          refine ret_tmp (v := .int .i64 (chkB b)) rfl ?_ ⟨rfl, hW.below⟩
          rw [chkB_n hs (by omega)]; rfl
         ·intro hc9
          replace hc9 := of_decide_eq_false hc9
          refine aB ?_
          refine l_valG (r_fieldAddr 26 Tryz.underlying31 rfl tyC3.size rfl rfl rfl) (by kernel_rfl) rfl ?_
          refine dG hW 0 tyC3 ?_
          refine l_valG (r_gtr rfl rfl rfl rfl) (by kernel_rfl) rfl ?_
          refine l_split ?_ ?_
          ·intro hc10
           replace hc10 := of_decide_eq_true hc10
           refine kB ?_
           refine aB ?_
           refine lN ?_
           refine lN ?_
           refine lN ?_
           refine kB ?_
           refine aB ?_
           refine lN ?_
           refine lN ?_
           refine lN ?_
           refine lN ?_
           refine lN ?_
           refine kB ?_
           refine l_end (n_then ?_)
           refine c_true rfl ?_
           refine c_seq (c_reg ?_)
           refine bI ?_
           refine l_end (n_then (c_ret (r_then ?_)))
           refine ret_tmp (v := .int .i64 (chkB b)) rfl ?_ ⟨rfl, hW.below⟩
           rw [chkB_n hs (by omega)]; rfl
          ·intro hc10
           replace hc10 := of_decide_eq_false hc10
           refine kB ?_
           refine aB ?_
           refine l_valG (r_fieldAddr 27 Tryz.underlying31 rfl tyC3.size rfl rfl rfl) (by kernel_rfl) rfl ?_
           refine dG hW 0 tyC3 ?_
           refine l_valG (r_lss rfl rfl rfl rfl) (by kernel_rfl) rfl ?_
           refine l_split ?_ ?_
           ·intro hc11
            replace hc11 := of_decide_eq_true hc11
            refine kB ?_
            refine aB ?_
            refine lN ?_
            refine lN ?_
            refine lN ?_
            refine lN ?_
            refine lN ?_
            refine kB ?_
            refine l_end (n_then ?_)
            refine c_true rfl ?_
            refine c_seq (c_reg ?_)
            refine bI ?_
            refine l_end (n_then (c_ret (r_then ?_)))
            refine ret_tmp (v := .int .i64 (chkB b)) rfl ?_ ⟨rfl, hW.below⟩
            rw [chkB_n hs (by omega)]; rfl
           ·intro hc11
            replace hc11 := of_decide_eq_false hc11
            refine kB ?_
            refine aB ?_
            refine l_valG (r_fieldAddr 27 Tryz.underlying31 rfl tyC3.size rfl rfl rfl) (by kernel_rfl) rfl ?_
            refine dG hW 0 tyC3 ?_
            refine l_valG (r_fieldAddr 26 Tryz.underlying31 rfl tyC3.size rfl rfl rfl) (by kernel_rfl) rfl ?_
            refine dG hW 0 tyC3 ?_
            refine l_valG (r_gtr rfl rfl rfl rfl) (by kernel_rfl) rfl ?_
            refine l_split ?_ ?_
            ·intro hc12
             replace hc12 := of_decide_eq_true hc12
             refine kB ?_
             refine l_end (n_then ?_)
             refine c_true rfl ?_
             refine c_seq (c_reg ?_)
             refine bI ?_
             refine l_end (n_then (c_ret (r_then ?_)))
             refine ret_tmp (v := .int .i64 (chkB b)) rfl ?_ ⟨rfl, hW.below⟩
             rw [chkB_n hs (by omega)]; rfl
            ·intro hc12
             replace hc12 := of_decide_eq_false hc12
             refine kB ?_
             refine l_end (n_then ?_)
             refine c_false rfl ?_
             refine c_skip (n_then (c_seq (c_reg ?_)))
             refine bI ?_
             refine l_end (n_then (c_ret ?_))
             refine ret_tmp (v := .int .i64 (chkB b)) rfl ?_ ⟨rfl, hW.below⟩
             rw [chkB_y hs hc2 (by omega)]; rfl
  ·intro hc2
   refine l_val (r_not rfl rfl) rfl rfl ?_
   refine aB ?_
   refine lN ?_
   refine lN ?_
   refine lN ?_
   refine kB ?_
   refine aB ?_
   refine lN ?_
   refine lN ?_
   refine lN ?_
   refine kB ?_
   refine aB ?_
   refine lN ?_
   refine lN ?_
   refine lN ?_
   refine kB ?_
   refine aB ?_
   refine lN ?_
   refine lN ?_
   refine lN ?_
   refine kB ?_
   refine aB ?_
   refine lN ?_
   refine lN ?_
   refine lN ?_
   refine kB ?_
   refine aB ?_
   refine lN ?_
   refine lN ?_
   refine lN ?_
   refine kB ?_
   refine l_end (n_then ?_)
   refine c_true rfl ?_
   refine c_seq (c_reg ?_)
   refine bI ?_
   refine l_end (n_then (c_ret (r_then ?_)))
   refine ret_tmp (v := .int .i64 (chkB b)) rfl ?_ ⟨rfl, hW.below⟩
   rw [chkB_l hs hc2]; rfl

set_option maxRecDepth 10000 in
/-- headend/trace.CheckBox -/
theorem g_CheckBox (b : Bo) (t : Sl) (hl : b.l.length ≤ 100) : GivesR Tryz.prog 36 [.agg (boC b t).toArray].toArray (fun w => RdI w t b.l) (.int .i64 (chkB b)) := by
 refine givesR_of Tryz.func36 rfl (bs := [.agg (boC b t).toArray, undef, undef, undef, undef, undef, undef, undef, undef, undef, undef, undef, undef, undef, undef, undef, undef, undef, undef, undef, undef, undef, undef, undef, undef, undef, undef, undef, undef, undef, undef, undef, undef, undef, undef, undef, undef, undef, undef, undef, undef, undef, undef, undef, undef, undef, undef, undef, undef, undef, undef, undef, undef, undef, undef, undef, undef, undef, undef, undef, undef, undef, undef, undef, undef, undef, undef, undef, undef, undef, undef, undef, undef, undef, undef, undef, undef, undef, undef, undef, undef, undef, undef, undef, undef]) rfl ?_
 intro w hP hW
 have hn := hP.len
 refine c_seq (c_reg ?_)
 refine xB hW ?_
 intro g1 W hW
 refine bI ?_
 refine l_end (n_then (c_seq (c_seq (c_reg ?_))))
 refine l_val (r_fieldAddr 0 Tryz.underlying31 rfl tyA26.size rfl rfl rfl) rfl rfl ?_
 refine l_loadP hW 0 tyA26 rfl rfl rfl rfl rfl (by first | rfl | omega | (simp; done) | (simp; omega)) rfl ?_
 refine l_call hW (g_Check _) en68 rfl rfl rfl rfl ?_
 intro W hW
 refine bI ?_
 refine l_end (n_then (c_seq (c_reg ?_)))
 refine aI ?_
 refine l_val (r_neq rfl rfl rfl rfl) rfl rfl ?_
 refine l_split ?_ ?_
 ·intro hc1
  replace hc1 := of_decide_eq_true hc1
  have hs := chk_bad hc1
  refine l_end (n_then ?_)
  refine c_true rfl ?_
  refine c_seq (c_reg ?_)
  refine aI ?_
  refine bI ?_
  refine l_end (n_then (c_ret (r_then ?_)))
  refine ret_tmp (v := .int .i64 (chkB b)) rfl ?_ ⟨rfl, hW.below⟩
  exact congrArg (Value.int .i64) ((chk_no hs).trans (chkB_s hs).symm)
 ·intro hc1
  replace hc1 := of_decide_eq_false hc1
  have hs := chk_zero hc1
  obtain ⟨k1, k3, d0, d6, -⟩ := schB_iff.1 hs
  have hp := p2_le (n := b.s.d.toNat) (by omega)
  refine l_end (n_then ?_)
  refine c_false rfl ?_
  refine c_skip (n_then (c_seq (c_seq (c_reg ?_))))
  refine l_val (r_fieldAddr 6 Tryz.underlying31 rfl tyC27.size rfl rfl rfl) rfl rfl ?_
  refine dC hW 0 tyC27 ?_
  refine l_val (r_lenSlice Tryz.underlying27 rfl rfl) rfl rfl ?_
  refine aI ?_
  refine l_end (n_then (c_block ?_))
  refine c_loop (fun (i : Nat) (j : Nat → Value) => [.agg (boC b t).toArray, .pointer (some ⟨g1, 0, none⟩), j 2, .int .i64 (chk b.s), j 4, j 5, .pointer (some ⟨g1, 0, none⟩), .agg [.int .u8 b.s.k, .int .i64 b.s.d, .int .i64 b.s.g, .int .u64 b.s.p, .int .u64 b.s.q, .int .u64 b.s.r].toArray, .int .i64 (chk b.s), .int .i64 (chk b.s), .bool false, j 11, .pointer (some ⟨g1, 6, none⟩), .slice t.a t.n t.c, .int .i64 (t.n : Int), .int .i64 (i : Int), j 16, j 17, j 18, j 19, j 20, j 21, j 22, j 23, j 24, j 25, j 26, j 27, j 28, j 29, j 30, j 31, j 32, j 33, j 34, j 35, j 36, j 37, j 38, j 39, j 40, j 41, j 42, j 43, j 44, j 45, j 46, j 47, j 48, j 49, j 50, j 51, j 52, j 53, j 54, j 55, j 56, j 57, j 58, j 59, j 60, j 61, j 62, j 63, j 64, j 65, j 66, j 67, j 68, j 69, j 70, j 71, j 72, j 73, j 74, j 75, j 76, j 77, j 78, j 79, j 80, j 81, j 82, j 83, j 84]) (fun (i : Nat) => [⟨g1, (boC b t), 31⟩]) (fun (i : Nat) => i ≤ t.n ∧ ∀ k, k < i → 0 ≤ at_ b.l k ∧ at_ b.l k < ((p2 b.s.d.toNat : Nat) : Int) ∧ (k = 0 ∨ at_ b.l (k - 1) < at_ b.l k)) (fun (i : Nat) => t.n - i) 0 (by kernel_rfl) hW ⟨by omega, all_zero⟩ ?_
  intro i j W hx hW
  refine c_seq (c_reg ?_)
  refine l_val (r_lssN rfl rfl rfl rfl) rfl rfl ?_
  refine l_split ?_ ?_
  ·intro hc2
   replace hc2 := of_decide_eq_true hc2
   obtain ⟨b0, o0, ha, hc⟩ := hP.ptr (by omega)
   refine l_end (n_then (c_seq ?_))
   refine c_true rfl ?_
   refine c_skip (n_then (c_seq (c_block (c_seq (c_reg ?_)))))
   refine aI ?_
   refine l_val (r_indexAddrSl2 (n := i) Tryz.underlying27 tyC3.size rfl ((show _ = Value.slice t.a t.n t.c from rfl).trans (by rw [ha])) rfl (by omega)) rfl rfl ?_
   refine l_loadF hW tyC3 (v := .int .i64 (at_ b.l (i))) (hc (i) (by omega)) rfl rfl rfl rfl ?_
   refine bI ?_
   refine bI ?_
   refine l_end (n_then (c_seq (c_reg ?_)))
   refine aI ?_
   refine l_val (r_lss rfl rfl rfl rfl) rfl rfl ?_
   refine l_split ?_ ?_
   ·intro hc3
    replace hc3 := of_decide_eq_true hc3
    refine aB ?_
    refine lN ?_
    refine lN ?_
    refine lN ?_
    refine lN ?_
    refine lN ?_
    refine lN ?_
    refine kB ?_
    refine aB ?_
    refine lN ?_
    refine lN ?_
    refine lN ?_
    refine lN ?_
    refine lN ?_
    refine lN ?_
    refine lN ?_
    refine lN ?_
    refine lN ?_
    refine lN ?_
    refine lN ?_
    refine lN ?_
    refine kB ?_
    refine l_end (n_then ?_)
    refine c_true rfl ?_
    refine c_seq (c_reg ?_)
    refine bI ?_
    refine l_end (n_then (c_ret (r_block (r_then (r_then (r_block (r_then ?_)))))))
    refine ret_tmp (v := .int .i64 (chkB b)) rfl ?_ ⟨rfl, hW.below⟩
    rw [chkB_l hs (users_no (i := i) (by omega) (by omega))]; rfl
   ·intro hc3
    replace hc3 := of_decide_eq_false hc3
    refine aB ?_
    refine gI ?_
    refine l_valG (r_fieldAddr 0 Tryz.underlying31 rfl tyA26.size rfl rfl rfl) (by kernel_rfl) rfl ?_
    refine l_valG (r_fieldAddr 1 Tryz.underlying26 rfl tyC3.size rfl rfl rfl) (by kernel_rfl) rfl ?_
    refine dG hW 0 tyC3 ?_
    refine l_valG (r_shlZ (m := 1) rfl rfl rfl (by omega) (by omega) (by omega)) (by kernel_rfl) rfl ?_
    refine l_valG (r_geq rfl rfl rfl rfl) (by kernel_rfl) rfl ?_
    refine l_split ?_ ?_
    ·intro hc4
     replace hc4 := of_decide_eq_true hc4
     refine kB ?_
     refine aB ?_
     refine lN ?_
     refine lN ?_
     refine lN ?_
     refine lN ?_
     refine lN ?_
     refine lN ?_
     refine lN ?_
     refine lN ?_
     refine lN ?_
     refine lN ?_
     refine lN ?_
     refine lN ?_
     refine kB ?_
     refine l_end (n_then ?_)
     refine c_true rfl ?_
     refine c_seq (c_reg ?_)
     refine bI ?_
     refine l_end (n_then (c_ret (r_block (r_then (r_then (r_block (r_then ?_)))))))
     refine ret_tmp (v := .int .i64 (chkB b)) rfl ?_ ⟨rfl, hW.below⟩
     rw [chkB_l hs (users_no (i := i) (by omega) (by omega))]; rfl
    ·intro hc4
     replace hc4 := of_decide_eq_false hc4
     refine kB ?_
     refine aB ?_
     refine gI ?_
     refine l_valG (r_gtrN (n := 0) rfl rfl rfl rfl) (by kernel_rfl) rfl ?_
     refine l_split ?_ ?_
     ·intro hc5
      replace hc5 := of_decide_eq_true hc5
      refine l_valG (r_move (v := .bool _) rfl rfl) (by kernel_rfl) rfl ?_
      refine gI ?_
      refine l_valG (r_fieldAddr 6 Tryz.underlying31 rfl tyC27.size rfl rfl rfl) (by kernel_rfl) rfl ?_
      refine dG hW 0 tyC27 ?_
      refine gI ?_
      refine l_valG (r_subN (n := 1) rfl rfl rfl (by omega) (by omega)) (by kernel_rfl) rfl ?_
      refine l_valG (r_indexAddrSl2 (n := i - 1) Tryz.underlying27 tyC3.size rfl ((show _ = Value.slice t.a t.n t.c from rfl).trans (by rw [ha])) rfl (by omega)) (by kernel_rfl) rfl ?_
      refine l_loadFG hW tyC3 (v := .int .i64 (at_ b.l (i - 1))) (hc (i - 1) (by omega)) (by kernel_rfl) rfl rfl rfl ?_
      refine l_valG (r_leq rfl rfl rfl rfl) (by kernel_rfl) rfl ?_
      refine l_split ?_ ?_
      ·intro hc6
       replace hc6 := of_decide_eq_true hc6
       refine l_valG (r_pick (v := .bool _) rfl rfl rfl) (by kernel_rfl) rfl ?_
       refine kB ?_
       refine l_end (n_then ?_)
       refine c_true rfl ?_
       refine c_seq (c_reg ?_)
       refine bI ?_
       refine l_end (n_then (c_ret (r_block (r_then (r_then (r_block (r_then ?_)))))))
       refine ret_tmp (v := .int .i64 (chkB b)) rfl ?_ ⟨rfl, hW.below⟩
       rw [chkB_l hs (users_no (i := i) (by omega) (by omega))]; rfl
      ·intro hc6
       replace hc6 := of_decide_eq_false hc6
       refine l_valG (r_pick (v := .bool _) rfl rfl rfl) (by kernel_rfl) rfl ?_
       refine kB ?_
       refine l_end (n_then ?_)
       refine c_false rfl ?_
       refine c_skip (n_block (n_then (c_reg ?_)))
       refine l_val (r_addN (n := 1) rfl rfl rfl (by omega)) rfl rfl ?_
       refine aI ?_
       refine l_end (n_then ?_)
       exact loop_next (i + 1) (by kernel_rfl) hW ⟨by omega, all_step hx.2 (by omega)⟩ (by omega)
     ·intro hc5
      replace hc5 := of_decide_eq_false hc5
      refine l_valG (r_move (v := .bool _) rfl rfl) (by kernel_rfl) rfl ?_
      refine lN ?_
      refine lN ?_
      refine lN ?_
      refine lN ?_
      refine lN ?_
      refine lN ?_
      refine lN ?_
      refine lN ?_
      refine l_valG (r_pick (v := .bool _) rfl rfl rfl) (by kernel_rfl) rfl ?_
      refine kB ?_
      refine l_end (n_then ?_)
      refine c_false rfl ?_
      refine c_skip (n_block (n_then (c_reg ?_)))
      refine l_val (r_addN (n := 1) rfl rfl rfl (by omega)) rfl rfl ?_
      refine aI ?_
      refine l_end (n_then ?_)
      exact loop_next (i + 1) (by kernel_rfl) hW ⟨by omega, all_step hx.2 (by omega)⟩ (by omega)
  ·intro hc2
   replace hc2 := of_decide_eq_false hc2
   refine l_end (n_then (c_seq ?_))
   refine c_false rfl ?_
   refine c_exit (x_then (x_then ?_))
   refine x_hit ?_
   refine n_then (c_seq (c_seq (c_reg ?_)))
   refine l_val (r_fieldAddr 7 Tryz.underlying31 rfl tyC5.size rfl rfl rfl) rfl rfl ?_
   refine dC hW 0 tyC5 ?_
   refine l_val (r_lss rfl rfl rfl rfl) rfl rfl ?_
   refine l_split ?_ ?_
   ·intro hc7
    replace hc7 := of_decide_eq_true hc7
    refine aB ?_
    refine lN ?_
    refine lN ?_
    refine lN ?_
    refine kB ?_
    refine aB ?_
    refine lN ?_
    refine lN ?_
    refine lN ?_
    refine lN ?_
    refine lN ?_
    refine lN ?_
    refine lN ?_
    refine lN ?_
    refine lN ?_
    refine lN ?_
    refine kB ?_
    refine aB ?_
    refine lN ?_
    refine lN ?_
    refine lN ?_
    refine lN ?_
    refine lN ?_
    refine lN ?_
    refine kB ?_
    refine aB ?_
    refine lN ?_
    refine lN ?_
    refine lN ?_
    refine kB ?_
    refine aB ?_
    refine lN ?_
    refine lN ?_
    refine lN ?_
    refine lN ?_
    refine lN ?_
    refine kB ?_
    refine l_end (n_then ?_)
    refine c_true rfl ?_
    refine c_seq (c_reg ?_)
    refine bI ?_
    refine l_end (n_then (c_ret (r_then ?_)))
    refine ret_tmp (v := .int .i64 (chkB b)) rfl ?_ ⟨rfl, hW.below⟩
    rw [chkB_n hs (by omega)]; rfl
   ·intro hc7
    replace hc7 := of_decide_eq_false hc7
    refine aB ?_
    refine l_valG (r_fieldAddr 7 Tryz.underlying31 rfl tyC5.size rfl rfl rfl) (by kernel_rfl) rfl ?_
    refine dG hW 0 tyC5 ?_
    refine l_valG (r_gtr rfl rfl rfl rfl) (by kernel_rfl) rfl ?_
    refine l_split ?_ ?_
    ·intro hc8
     replace hc8 := of_decide_eq_true hc8
     refine kB ?_
     refine aB ?_
     refine lN ?_
     refine lN ?_
     refine lN ?_
     refine lN ?_
     refine lN ?_
     refine lN ?_
     refine lN ?_
     refine lN ?_
     refine lN ?_
     refine lN ?_
     refine kB ?_
     refine aB ?_
     refine lN ?_
     refine lN ?_
     refine lN ?_
     refine lN ?_
     refine lN ?_
     refine lN ?_
     refine kB ?_
     refine aB ?_
     refine lN ?_
     refine lN ?_
     refine lN ?_
     refine kB ?_
     refine aB ?_
     refine lN ?_
     refine lN ?_
     refine lN ?_
     refine lN ?_
     refine lN ?_
     refine kB ?_
     refine l_end (n_then ?_)
     refine c_true rfl ?_
     refine c_seq (c_reg ?_)
     refine bI ?_
     refine l_end (n_then (c_ret (r_then ?_)))
     refine ret_tmp (v := .int .i64 (chkB b)) rfl ?_ ⟨rfl, hW.below⟩
     rw [chkB_n hs (by omega)]; rfl
    ·intro hc8
     replace hc8 := of_decide_eq_false hc8
     refine kB ?_
     refine aB ?_
     refine l_valG (r_fieldAddr 8 Tryz.underlying31 rfl tyC3.size rfl rfl rfl) (by kernel_rfl) rfl ?_
     refine dG hW 0 tyC3 ?_
     refine l_valG (r_fieldAddr 9 Tryz.underlying31 rfl tyC3.size rfl rfl rfl) (by kernel_rfl) rfl ?_
     refine dG hW 0 tyC3 ?_
     refine l_valG (r_fieldAddr 26 Tryz.underlying31 rfl tyC3.size rfl rfl rfl) (by kernel_rfl) rfl ?_
     refine dG hW 0 tyC3 ?_
     refine l_valG (r_fieldAddr 27 Tryz.underlying31 rfl tyC3.size rfl rfl rfl) (by kernel_rfl) rfl ?_
     refine dG hW 0 tyC3 ?_
     refine l_valG (r_min4 rfl rfl rfl rfl rfl) (by kernel_rfl) rfl ?_
     refine l_valG (r_lss rfl rfl rfl rfl) (by kernel_rfl) rfl ?_
     refine l_split ?_ ?_
     ·intro hc9
      replace hc9 := of_decide_eq_true hc9
      refine kB ?_
      refine aB ?_
      refine lN ?_
      refine lN ?_
      refine lN ?_
      refine lN ?_
      refine lN ?_
      refine lN ?_
      refine kB ?_
      refine aB ?_
      refine lN ?_
      refine lN ?_
      refine lN ?_
      refine kB ?_
      refine aB ?_
      refine lN ?_
      refine lN ?_
      refine lN ?_
      refine lN ?_
      refine lN ?_
      refine kB ?_
      refine l_end (n_then ?_)
      refine c_true rfl ?_
      refine c_seq (c_reg ?_)
      refine bI ?_
      refine l_end (n_then (c_ret (r_then ?_)))
      refine ret_tmp (v := .int .i64 (chkB b)) rfl ?_ ⟨rfl, hW.below⟩
      rw [chkB_n hs (by omega)]; rfl
     ·intro hc9
      replace hc9 := of_decide_eq_false hc9
      refine kB ?_
      refine aB ?_
      refine l_valG (r_fieldAddr 8 Tryz.underlying31 rfl tyC3.size rfl rfl rfl) (by kernel_rfl) rfl ?_
      refine dG hW 0 tyC3 ?_
      refine l_valG (r_fieldAddr 9 Tryz.underlying31 rfl tyC3.size rfl rfl rfl) (by kernel_rfl) rfl ?_
      refine dG hW 0 tyC3 ?_
      refine l_valG (r_max2 rfl rfl rfl) (by kernel_rfl) rfl ?_
      refine l_valG (r_gtr rfl rfl rfl rfl) (by kernel_rfl) rfl ?_
      refine l_split ?_ ?_
      ·intro hc10
       replace hc10 := of_decide_eq_true hc10
       refine kB ?_
       refine aB ?_
       refine lN ?_
       refine lN ?_
       refine lN ?_
       refine kB ?_
       refine aB ?_
       refine lN ?_
       refine lN ?_
       refine lN ?_
       refine lN ?_
       refine lN ?_
       refine kB ?_
       refine l_end (n_then ?_)
       refine c_true rfl ?_
       refine c_seq (c_reg ?_)
       refine bI ?_
       refine l_end (n_then (c_ret (r_then ?_)))
       refine ret_tmp (v := .int .i64 (chkB b)) rfl ?_ ⟨rfl, hW.below⟩
       rw [chkB_n hs (by omega)]; rfl
      ·intro hc10
       replace hc10 := of_decide_eq_false hc10
       refine kB ?_
       refine aB ?_
       refine l_valG (r_fieldAddr 26 Tryz.underlying31 rfl tyC3.size rfl rfl rfl) (by kernel_rfl) rfl ?_
       refine dG hW 0 tyC3 ?_
       refine l_valG (r_gtr rfl rfl rfl rfl) (by kernel_rfl) rfl ?_
       refine l_split ?_ ?_
       ·intro hc11
        replace hc11 := of_decide_eq_true hc11
        refine kB ?_
        refine aB ?_
        refine lN ?_
        refine lN ?_
        refine lN ?_
        refine lN ?_
        refine lN ?_
        refine kB ?_
        refine l_end (n_then ?_)
        refine c_true rfl ?_
        refine c_seq (c_reg ?_)
        refine bI ?_
        refine l_end (n_then (c_ret (r_then ?_)))
        refine ret_tmp (v := .int .i64 (chkB b)) rfl ?_ ⟨rfl, hW.below⟩
        rw [chkB_n hs (by omega)]; rfl
       ·intro hc11
        replace hc11 := of_decide_eq_false hc11
        refine kB ?_
        refine aB ?_
        refine l_valG (r_fieldAddr 27 Tryz.underlying31 rfl tyC3.size rfl rfl rfl) (by kernel_rfl) rfl ?_
        refine dG hW 0 tyC3 ?_
        refine l_valG (r_fieldAddr 26 Tryz.underlying31 rfl tyC3.size rfl rfl rfl) (by kernel_rfl) rfl ?_
        refine dG hW 0 tyC3 ?_
        refine l_valG (r_gtr rfl rfl rfl rfl) (by kernel_rfl) rfl ?_
        refine l_split ?_ ?_
        ·intro hc12
         replace hc12 := of_decide_eq_true hc12
         refine kB ?_
         refine l_end (n_then ?_)
         refine c_true rfl ?_
         refine c_seq (c_reg ?_)
         refine bI ?_
         refine l_end (n_then (c_ret (r_then ?_)))
         refine ret_tmp (v := .int .i64 (chkB b)) rfl ?_ ⟨rfl, hW.below⟩
         rw [chkB_n hs (by omega)]; rfl
        ·intro hc12
         replace hc12 := of_decide_eq_false hc12
         refine kB ?_
         refine l_end (n_then ?_)
         refine c_false rfl ?_
         refine c_skip (n_then (c_seq (c_reg ?_)))
         refine bI ?_
         refine l_end (n_then (c_ret ?_))
         refine ret_tmp (v := .int .i64 (chkB b)) rfl ?_ ⟨rfl, hW.below⟩
         rw [chkB_y hs (users_yes hn fun k hk => hx.2 k (by omega)) (by omega)]; rfl

end Go.Proofs.YtoegpalacppllaaGreat

/- Lists of numbers. -/
namespace Go.Proofs.YtoegpalacppllaaGreat
open Go.RowKit Pl
open Tr Hn
set_option maxRecDepth 10000 in
/-- headend/headendref08.in -/
theorem g_rin (aa : Option Addr) (an ac : Nat) (l : List Int) (x : Int) (hl : l.length ≤ 4294967296) : GivesR Tryz.prog 182 [.slice aa an ac, .int .i64 x].toArray (fun w => RdI w ⟨aa, an, ac⟩ l) (.bool (l.contains x)) := by
 refine givesR_of Tryz.func182 rfl (bs := [.slice aa an ac, .int .i64 x, undef, undef, undef, undef, undef, undef, undef, undef, undef, undef, undef, undef, undef, undef, undef, undef]) rfl ?_
 intro w hP hW
 have hn : an = l.length := hP.len
 refine c_seq (c_reg ?_)
 refine bB ?_
 refine l_end (n_then (c_seq (c_seq (c_reg ?_))))
 refine bI ?_
 refine l_end (n_then (c_block ?_))
 refine c_loop (fun (i : Nat) (j : Nat → Value) => [.slice aa an ac, .int .i64 x, j 2, j 3, j 4, .int .i64 (i : Int), j 6, j 7, j 8, j 9, j 10, j 11, j 12, j 13, j 14, j 15, j 16, j 17]) (fun (i : Nat) => []) (fun (i : Nat) => i ≤ an ∧ ∀ k, k < i → at_ l k ≠ x) (fun (i : Nat) => an - i) 0 (by kernel_rfl) hW ⟨by omega, all_zero⟩ ?_
 intro i j W hx hW
 refine c_seq (c_seq (c_reg ?_))
 refine aI ?_
 refine aS ?_
 refine l_val (r_lenSlice Tryz.underlying27 rfl rfl) rfl rfl ?_
 refine l_val (r_lssN rfl rfl rfl rfl) rfl rfl ?_
 refine l_split ?_ ?_
 ·intro hc1
  replace hc1 := of_decide_eq_true hc1
  obtain ⟨b0, o0, ha, hc⟩ := hP.ptr (by omega)
  simp only at ha
  subst ha
  refine l_end (n_then ?_)
  refine c_true rfl ?_
  refine c_skip (n_then (c_seq (c_block (c_seq (c_reg ?_)))))
  refine aS ?_
  refine aI ?_
  refine l_val (r_indexAddrSl2 (n := i) Tryz.underlying27 tyC3.size rfl rfl rfl (by omega)) rfl rfl ?_
  refine l_loadF hW tyC3 (v := .int .i64 (at_ l (i))) (hc (i) (by omega)) rfl rfl rfl rfl ?_
  refine aI ?_
  refine l_val (r_eql rfl rfl rfl rfl) rfl rfl ?_
  refine l_split ?_ ?_
  ·intro hc2
   replace hc2 := of_decide_eq_true hc2
   refine l_end (n_then ?_)
   refine c_true rfl ?_
   refine c_seq (c_reg ?_)
   refine bB ?_
   refine l_end (n_then (c_ret (r_block (r_then (r_then (r_block (r_then ?_)))))))
   refine ret_tmp (v := .bool (l.contains x)) rfl ?_ ⟨rfl, hW.below⟩
   rw [has_at (by omega) hc2]; rfl
  ·intro hc2
   replace hc2 := of_decide_eq_false hc2
   refine l_end (n_then ?_)
   refine c_false rfl ?_
   refine c_skip (n_block (n_then (c_reg ?_)))
   refine aI ?_
   refine l_val (r_addN (n := 1) rfl rfl rfl (by omega)) rfl rfl ?_
   refine bI ?_
   refine l_end (n_then ?_)
   exact loop_next (i + 1) (by kernel_rfl) hW ⟨by omega, all_step hx.2 hc2⟩ (by omega)
 ·intro hc1
  replace hc1 := of_decide_eq_false hc1
  refine l_end (n_then ?_)
  refine c_false rfl ?_
  refine c_exit (x_then (x_then ?_))
  refine x_hit ?_
  refine n_then (c_seq (c_reg ?_))
  refine bB ?_
  refine l_end (n_then (c_ret ?_))
  refine ret_tmp (v := .bool (l.contains x)) rfl ?_ ⟨rfl, hW.below⟩
  rw [has_no hn fun k hk => hx.2 k (by omega)]; rfl

set_option maxRecDepth 10000 in
/-- headend/headendref03.SameInts -/
theorem g_SameInts (aa : Option Addr) (an ac : Nat) (l : List Int) (ba : Option Addr) (bn bc : Nat) (m : List Int) (hl : l.length ≤ 4294967296) : GivesR Tryz.prog 78 [.slice aa an ac, .slice ba bn bc].toArray (fun w => RdI w ⟨aa, an, ac⟩ l ∧ RdI w ⟨ba, bn, bc⟩ m) (.bool (decide (l = m))) := by
 refine givesR_of Tryz.func78 rfl (bs := [.slice aa an ac, .slice ba bn bc, undef, undef, undef, undef, undef, undef, undef, undef, undef, undef, undef, undef, undef, undef, undef, undef, undef, undef, undef, undef, undef, undef, undef, undef]) rfl ?_
 intro w hP hW
 have hn : an = l.length := hP.1.len
 have hm : bn = m.length := hP.2.len
 refine c_seq (c_reg ?_)
 refine bB ?_
 refine l_end (n_then (c_seq (c_seq (c_reg ?_))))
 refine aS ?_
 refine l_val (r_lenSlice Tryz.underlying27 rfl rfl) rfl rfl ?_
 refine aS ?_
 refine l_val (r_lenSlice Tryz.underlying27 rfl rfl) rfl rfl ?_
 refine l_val (r_neqN rfl rfl rfl rfl) rfl rfl ?_
 refine l_split ?_ ?_
 ·intro hc1
  replace hc1 := of_decide_eq_true hc1
  refine l_end (n_then ?_)
  refine c_true rfl ?_
  refine c_seq (c_reg ?_)
  refine bB ?_
  refine l_end (n_then (c_ret (r_then ?_)))
  refine ret_tmp (v := .bool (decide (l = m))) rfl ?_ ⟨rfl, hW.below⟩
  rw [same_len (by omega)]; rfl
 ·intro hc1
  replace hc1 := of_decide_eq_false hc1
  refine l_end (n_then ?_)
  refine c_false rfl ?_
  refine c_skip (n_then (c_seq (c_seq (c_reg ?_))))
  refine bI ?_
  refine l_end (n_then (c_block ?_))
  refine c_loop (fun (i : Nat) (j : Nat → Value) => [.slice aa an ac, .slice ba bn bc, j 2, j 3, j 4, .int .i64 (i : Int), .slice aa an ac, j 7, .slice ba bn bc, j 9, .bool false, j 11, j 12, j 13, j 14, j 15, j 16, j 17, j 18, j 19, j 20, j 21, j 22, j 23, j 24, j 25]) (fun (i : Nat) => []) (fun (i : Nat) => i ≤ an ∧ ∀ k, k < i → at_ l k = at_ m k) (fun (i : Nat) => an - i) 0 (by kernel_rfl) hW ⟨by omega, all_zero⟩ ?_
  intro i j W hx hW
  refine c_seq (c_seq (c_reg ?_))
  refine aI ?_
  refine aS ?_
  refine l_val (r_lenSlice Tryz.underlying27 rfl rfl) rfl rfl ?_
  refine l_val (r_lssN rfl rfl rfl rfl) rfl rfl ?_
  refine l_split ?_ ?_
  ·intro hc2
   replace hc2 := of_decide_eq_true hc2
   obtain ⟨b0, o0, ha, hc⟩ := hP.1.ptr (by omega)
   simp only at ha
   subst ha
   obtain ⟨b1, o1, ha, hd⟩ := hP.2.ptr (by omega)
   simp only at ha
   subst ha
   refine l_end (n_then ?_)
   refine c_true rfl ?_
   refine c_skip (n_then (c_seq (c_block (c_seq ?_))))
   refine c_regY hW [] [.q, .q, .q, .q, .q, .q, .q, .q, .q] [0, 0, 3, 7, 0, 0, 48, 112, 255] (by kernel_rfl) (by kernel_rfl) ?_
   refine yS ?_
   refine yI ?_
   refine y_val (r_indexAddrSl2 (n := i) Tryz.underlying27 tyC3.size rfl rfl rfl (by omega)) rfl rfl ?_
   refine y_loadF tyC3 (v := .int .i64 (at_ l (i))) (hc (i) (by omega)) (by kernel_rfl) rfl rfl rfl ?_
   refine yS ?_
   refine yI ?_
   refine y_val (r_indexAddrSl2 (n := i) Tryz.underlying27 tyC3.size rfl rfl rfl (by omega)) rfl rfl ?_
   refine y_loadF tyC3 (v := .int .i64 (at_ m (i))) (hd (i) (by omega)) (by kernel_rfl) rfl rfl rfl ?_
   refine y_val (r_neq rfl rfl rfl rfl) rfl rfl ?_
   refine y_split ?_ ?_
   ·intro hc3
    replace hc3 := of_decide_eq_true hc3
    refine y_end ?_
    intro W hW
    refine n_then ?_
    refine c_true rfl ?_
    refine c_seq (c_reg ?_)
    refine bB ?_
    refine l_end (n_then (c_ret (r_block (r_then (r_then (r_block (r_then ?_)))))))
    refine ret_tmp (v := .bool (decide (l = m))) rfl ?_ ⟨rfl, hW.below⟩
    rw [same_no (i := i) (by omega)]; rfl
   ·intro hc3
    replace hc3 := of_decide_eq_false hc3
    refine y_end ?_
    intro W hW
    refine n_then ?_
    refine c_false rfl ?_
    refine c_skip (n_block (n_then (c_reg ?_)))
    refine aI ?_
    refine l_val (r_addN (n := 1) rfl rfl rfl (by omega)) rfl rfl ?_
    refine bI ?_
    refine l_end (n_then ?_)
    exact loop_next (i + 1) (by kernel_rfl) hW ⟨by omega, all_step hx.2 (by omega)⟩ (by omega)
  ·intro hc2
   replace hc2 := of_decide_eq_false hc2
   refine l_end (n_then ?_)
   refine c_false rfl ?_
   refine c_exit (x_then (x_then ?_))
   refine x_hit ?_
   refine n_then (c_seq (c_reg ?_))
   refine bB ?_
   refine l_end (n_then (c_ret ?_))
   refine ret_tmp (v := .bool (decide (l = m))) rfl ?_ ⟨rfl, hW.below⟩
   rw [same_yes (by omega) fun k hk => hx.2 k (by omega)]; rfl

end Go.Proofs.YtoegpalacppllaaGreat

/- Twins of boxes. -/
namespace Go.Proofs.YtoegpalacppllaaGreat
open Go.RowKit Pl
open Tr Hn
set_option maxRecDepth 10000 in
/-- headend/headendref08.TwinBox -/
theorem g_TwinBox (b : Bo) (t : Sl) (hl : b.l.length ≤ 100) : GivesX Tryz.prog 23 [.agg (boC b t).toArray].toArray (fun w => RdI w t b.l) (boX b) := by
 refine givesX_of Tryz.func23 rfl (bs := [.agg (boC b t).toArray, undef, undef, undef, undef, undef, undef, undef, undef]) rfl ?_
 intro w hP hW
 refine c_seq (c_reg ?_)
 refine xB hW ?_
 intro g1 W hW
 refine l_alloc hW tyZ31 rfl rfl rfl ?_
 intro g2 W hW
 refine l_end (n_then (c_seq (c_reg ?_)))
 refine l_buildSliceF hW bsl27_0_ rfl rfl rfl rfl ?_
 intro ge W hW
 refine l_val (r_fieldAddr 6 Tryz.underlying31 rfl tyC27.size rfl rfl rfl) rfl rfl ?_
 refine dC hW 2 tyC27 ?_
 refine l_twin tyE27 hW (hP.past hW.below) (by omega) (by omega) rfl rfl rfl rfl rfl ?_
 intro s2 Bs W hN hW
 refine l_val (r_fieldAddr 6 Tryz.underlying31 rfl tyC27.size rfl rfl rfl) rfl rfl ?_
 refine l_storeC hW 2 tyC27 (v := s2.v) rfl rfl rfl rfl rfl rfl (by rw [boC_len]; decide) rfl ?_
 intro W hW
 replace hW := (show Cl _ ([⟨ge, [], _⟩, ⟨g2, z31, _⟩, ⟨g1, boC b s2, _⟩] ++ Bs) _ from hW)
 refine l_end (n_then (c_seq (c_reg ?_)))
 refine dA hW 2 tyA31 ?_
 refine l_storeA hW 1 tyA31 rfl rfl rfl rfl rfl rfl rfl (boC_len b s2) (boC_one b s2) ?_
 intro W hW
 refine l_end (n_then (c_ret ?_))
 refine rC hW 1 tyA31 ?_
 exact ⟨_, _, rfl, ⟨s2, rfl, hN⟩, hW.drop 3⟩

set_option maxRecDepth 10000 in
/-- headend/headendref08.SameBox -/
theorem g_SameBox (b : Bo) (t u : Sl) (hl : b.l.length ≤ 100) : GivesR Tryz.prog 26 [.agg (boC b t).toArray, .agg (boC b u).toArray].toArray (fun w => RdI w t b.l ∧ RdI w u b.l) (.bool true) := by
 refine givesR_of Tryz.func26 rfl (bs := [.agg (boC b t).toArray, .agg (boC b u).toArray, undef, undef, undef, undef, undef, undef, undef, undef, undef, undef, undef, undef, undef, undef, undef, undef, undef, undef, undef, undef, undef, undef, undef, undef, undef, undef, undef, undef, undef, undef, undef, undef, undef, undef, undef, undef, undef, undef, undef, undef, undef, undef, undef, undef, undef, undef, undef, undef, undef, undef, undef, undef, undef, undef, undef, undef, undef]) rfl ?_
 intro w hP hW
 refine c_seq (c_reg ?_)
 refine xB hW ?_
 intro g1 W hW
 refine xB hW ?_
 intro g2 W hW
 refine bB ?_
 refine l_end (n_then (c_seq (c_reg ?_)))
 refine l_val (r_fieldAddr 0 Tryz.underlying31 rfl tyA26.size rfl rfl rfl) rfl rfl ?_
 refine l_loadP hW 1 tyA26 rfl rfl rfl rfl rfl (by first | rfl | omega | (simp; done) | (simp; omega)) rfl ?_
 refine l_val (r_fieldAddr 0 Tryz.underlying31 rfl tyA26.size rfl rfl rfl) rfl rfl ?_
 refine l_loadP hW 0 tyA26 rfl rfl rfl rfl rfl (by first | rfl | omega | (simp; done) | (simp; omega)) rfl ?_
 refine l_val (r_eqlS gd26 (eqS26 _ _ _ _ _ _ _ _ _ _ _ _) (c := true) rfl rfl rfl (decide_eq_true (by simp))) rfl rfl ?_
 refine aB ?_
 refine l_valG (r_fieldAddr 6 Tryz.underlying31 rfl tyC27.size rfl rfl rfl) (by kernel_rfl) rfl ?_
 refine dG hW 1 tyC27 ?_
 refine l_valG (r_fieldAddr 6 Tryz.underlying31 rfl tyC27.size rfl rfl rfl) (by kernel_rfl) rfl ?_
 refine dG hW 0 tyC27 ?_
 refine l_callRG hW (g_SameInts t.a t.n t.c b.l u.a u.n u.c b.l (by omega)) en78 ⟨hP.1.past hW.below, hP.2.past hW.below⟩ (by kernel_rfl) rfl rfl rfl ?_
 intro W hW
 rw [decide_eq_true rfl]
 refine kB ?_
 refine aB ?_
 refine l_valG (r_fieldAddr 7 Tryz.underlying31 rfl tyC5.size rfl rfl rfl) (by kernel_rfl) rfl ?_
 refine dG hW 1 tyC5 ?_
 refine l_valG (r_fieldAddr 7 Tryz.underlying31 rfl tyC5.size rfl rfl rfl) (by kernel_rfl) rfl ?_
 refine dG hW 0 tyC5 ?_
 refine l_valG (r_eql (b := true) rfl rfl rfl (decide_eq_true rfl)) (by kernel_rfl) rfl ?_
 refine kB ?_
 refine aB ?_
 refine l_valG (r_fieldAddr 8 Tryz.underlying31 rfl tyC3.size rfl rfl rfl) (by kernel_rfl) rfl ?_
 refine dG hW 1 tyC3 ?_
 refine l_valG (r_fieldAddr 8 Tryz.underlying31 rfl tyC3.size rfl rfl rfl) (by kernel_rfl) rfl ?_
 refine dG hW 0 tyC3 ?_
 refine l_valG (r_eql (b := true) rfl rfl rfl (decide_eq_true rfl)) (by kernel_rfl) rfl ?_
 refine kB ?_
 refine aB ?_
 refine l_valG (r_fieldAddr 9 Tryz.underlying31 rfl tyC3.size rfl rfl rfl) (by kernel_rfl) rfl ?_
 refine dG hW 1 tyC3 ?_
 refine l_valG (r_fieldAddr 9 Tryz.underlying31 rfl tyC3.size rfl rfl rfl) (by kernel_rfl) rfl ?_
 refine dG hW 0 tyC3 ?_
 refine l_valG (r_eql (b := true) rfl rfl rfl (decide_eq_true rfl)) (by kernel_rfl) rfl ?_
 refine kB ?_
 refine aB ?_
 refine l_valG (r_fieldAddr 10 Tryz.underlying31 rfl tyA29.size rfl rfl rfl) (by kernel_rfl) rfl ?_
 refine l_loadPG hW 1 tyA29 (by kernel_rfl) rfl rfl rfl rfl (by rw [boC_len]; decide) (boC_key b t) ?_
 refine l_valG (r_fieldAddr 10 Tryz.underlying31 rfl tyA29.size rfl rfl rfl) (by kernel_rfl) rfl ?_
 refine l_loadPG hW 0 tyA29 (by kernel_rfl) rfl rfl rfl rfl (by rw [boC_len]; decide) (boC_key b u) ?_
 refine l_valG (r_eqlK tyK29 _ _ (c := true) rfl rfl rfl (by simp)) (by kernel_rfl) rfl ?_
 refine kB ?_
 refine aB ?_
 refine l_valG (r_fieldAddr 26 Tryz.underlying31 rfl tyC3.size rfl rfl rfl) (by kernel_rfl) rfl ?_
 refine dG hW 1 tyC3 ?_
 refine l_valG (r_fieldAddr 26 Tryz.underlying31 rfl tyC3.size rfl rfl rfl) (by kernel_rfl) rfl ?_
 refine dG hW 0 tyC3 ?_
 refine l_valG (r_eql (b := true) rfl rfl rfl (decide_eq_true rfl)) (by kernel_rfl) rfl ?_
 refine kB ?_
 refine aB ?_
 refine l_valG (r_fieldAddr 27 Tryz.underlying31 rfl tyC3.size rfl rfl rfl) (by kernel_rfl) rfl ?_
 refine dG hW 1 tyC3 ?_
 refine l_valG (r_fieldAddr 27 Tryz.underlying31 rfl tyC3.size rfl rfl rfl) (by kernel_rfl) rfl ?_
 refine dG hW 0 tyC3 ?_
 refine l_valG (r_eql (b := true) rfl rfl rfl (decide_eq_true rfl)) (by kernel_rfl) rfl ?_
 refine kB ?_
 refine bB ?_
 refine l_end (n_then (c_ret ?_))
 refine ret_tmp (v := .bool true) rfl ?_ ⟨rfl, hW.below⟩
 rfl

end Go.Proofs.YtoegpalacppllaaGreat

/- Which lists have an element of another one. No function of the program is in sight here. -/
namespace Go.Proofs.YtoegpalacppllaaGreat.Tr
open Hn
/-- the first index at which something holds, or -1 -/
def findI (n : Nat) (p : Nat → Bool) : Int := match (List.range n).find? p with
  | some i => (i : Int)
  | none => -1
theorem find_yes {n : Nat} {p : Nat → Bool} {i : Nat} (hi : i < n) (h : p i = true) (hb : ∀ k, k < i → p k = false) : findI n p = (i : Int) := by
  have : (List.range n).find? p = some i := List.find?_range_eq_some.2 ⟨h, List.mem_range.2 hi, fun j hj => by rw [hb j hj]; rfl⟩
  rw [findI, this]
theorem find_no {n : Nat} {p : Nat → Bool} (hb : ∀ k, k < n → p k = false) : findI n p = -1 := by
  have : (List.range n).find? p = none := List.find?_eq_none.2 fun j hj => by rw [hb j (List.mem_range.1 hj)]; decide
  rw [findI, this]
theorem find_any (n : Nat) (p : Nat → Bool) : decide (findI n p ≥ 0) = (List.range n).any p := by
  unfold findI
  cases hf : (List.range n).find? p with
  | some i => rw [decide_eq_true (by simp only; omega)]; exact (List.any_eq_true.2 ⟨i, List.mem_of_find?_eq_some hf, List.find?_some hf⟩).symm
  | none =>
    rw [decide_eq_false (by simp only; omega)]
    refine (Bool.eq_false_iff.2 fun h => ?_).symm
    obtain ⟨i, hi, hp⟩ := List.any_eq_true.1 h
    exact List.find?_eq_none.1 hf i hi hp
theorem mem_at {l : List Int} {x : Int} : x ∈ l ↔ ∃ i, i < l.length ∧ at_ l i = x := by
  rw [List.mem_iff_getElem]
  constructor
  · rintro ⟨i, hi, e⟩; exact ⟨i, hi, by simp [at_, List.getD_eq_getElem?_getD, hi, e]⟩
  · rintro ⟨i, hi, e⟩; exact ⟨i, hi, by simpa [at_, List.getD_eq_getElem?_getD, hi] using e⟩
/-- whether a list has an element of a coalition -/
def hasP (c m : List Int) : Bool := (List.range m.length).any fun k => c.contains (at_ m k)
theorem hasP_opn {s : Sc} {c : List Int} {v x : Int} (hc : usersB c ((p2 s.d.toNat : Nat) : Int) = true) : hasP c (membersN s v x (p2 s.d.toNat)) = opnB s c v x := by
  rw [Bool.eq_iff_iff, hasP, opnB, List.any_eq_true, List.any_eq_true]
  constructor
  · rintro ⟨k, hk, h⟩
    have hm := mem_at.2 ⟨k, List.mem_range.1 hk, rfl⟩
    obtain ⟨u, hu, e⟩ := List.mem_map.1 hm
    obtain ⟨i, hi, e2⟩ := mem_at.1 (List.contains_iff_mem.1 h)
    refine ⟨i, List.mem_range.2 hi, ?_⟩
    rw [e2, ← e, Int.toNat_natCast]
    exact (List.mem_filter.1 hu).2
  · rintro ⟨i, hi, h⟩
    have hi := List.mem_range.1 hi
    have hb := users_at hc hi
    have hm : at_ c i ∈ membersN s v x (p2 s.d.toNat) := List.mem_map.2 ⟨(at_ c i).toNat, List.mem_filter.2 ⟨List.mem_range.2 (by omega), h⟩, by omega⟩
    obtain ⟨k, hk, e⟩ := mem_at.1 hm
    exact ⟨k, List.mem_range.2 hk, by rw [e]; exact List.contains_iff_mem.2 (mem_at.2 ⟨i, hi, rfl⟩)⟩
theorem users_pair {l : List Int} {m : Int} (h : usersB l m = true) : l.Pairwise (· ≤ ·) := by
  rw [List.pairwise_iff_getElem]
  intro i j hi hj hij
  have := users_lt h i j hij hj
  simp only [at_, List.getD_eq_getElem?_getD, hi, hj, List.getElem?_eq_getElem, Option.getD_some] at this
  omega
/-- which of some lists are open to a coalition -/
def opl (c : List Int) (gs : List (List Int)) (n : Nat) : List Bool := (List.range n).map fun i => hasP c (gs.getD i [])
theorem opl_succ (c : List Int) (gs : List (List Int)) (n : Nat) : opl c gs (n + 1) = opl c gs n ++ [hasP c (gs.getD n [])] := by simp [opl, List.range_succ]
theorem opl_opens {b : Bo} {l : List (Int × Int)} (hc : usersB b.l ((p2 b.s.d.toNat : Nat) : Int) = true) : opl b.l (mems b.s l) l.length = opens b l l.length := by
  refine List.map_congr_left fun i hi => ?_
  have hi := List.mem_range.1 hi
  rw [List.getD_eq_getElem?_getD, mems_get hi]
  exact hasP_opn hc
end Go.Proofs.YtoegpalacppllaaGreat.Tr

/- What a subset is divided into, looked up for all subsets of all valid schemes. No program is in sight here. -/
namespace Go.Proofs.YtoegpalacppllaaGreat.Tr
open Hn

/-- what a subset of two members or more is divided into -/
def splitV (s : Sc) (v w : Int) : List (Int × Int) :=
  if s.k = 1 then [(2 * v, 0), (2 * v + 1, 0)]
  else if w = 0 then [(1, 2), (1, 3)]
  else if sh w.toNat (lev w.toNat - lev v.toNat - 1) = w.toNat then [(((sib w.toNat : Nat) : Int), 2 * ((sib w.toNat : Nat) : Int)), (((sib w.toNat : Nat) : Int), 2 * ((sib w.toNat : Nat) : Int) + 1)]
  else if subB s ((sh w.toNat (lev w.toNat - lev v.toNat - 1) : Nat) : Int) w then [(v, ((sh w.toNat (lev w.toNat - lev v.toNat - 1) : Nat) : Int)), (((sh w.toNat (lev w.toNat - lev v.toNat - 1) : Nat) : Int), w)]
  else [(v, ((bet s.d w.toNat (lev w.toNat - lev v.toNat - 1) : Nat) : Int)), (((bet s.d w.toNat (lev w.toNat - lev v.toNat - 1) : Nat) : Int), w)]
/-- membership, of leaves at a depth -/
def memF (d v w y : Nat) : Bool := Nat.ble (lev v) d && Nat.beq (y / 2 ^ (d - lev v)) v && (Nat.beq w 0 || !(Nat.ble (lev w) d && Nat.beq (y / 2 ^ (d - lev w)) w))
theorem belowF {d u v : Nat} (hu : u < p2 d) : belowN (p2 d + u) v = (Nat.ble (lev v) d && Nat.beq ((p2 d + u) / 2 ^ (d - lev v)) v) := by
  rw [belowN, leaf_lev hu, sh_eq]
theorem memF_eq {s : Sc} {v w : Int} {u : Nat} (h0 : 0 ≤ w) (hu : u < p2 s.d.toNat) : memB s v w u = memF s.d.toNat v.toNat w.toNat (p2 s.d.toNat + u) := by
  rw [memB, belowF hu, belowF hu, memF]
  congr 2
  rw [Bool.eq_iff_iff]; simp; omega
def cntF (d v w : Nat) : Nat := ((List.range (p2 d)).filter fun u => memF d v w (p2 d + u)).length
def spOK (k d v w : Nat) : Bool :=
  !subB ⟨k, d, 0, 0, 0, 0⟩ v w || (!Nat.beq (cntF d v w) 0 && (Nat.beq (cntF d v w) 1 ||
    match splitV ⟨k, d, 0, 0, 0, 0⟩ v w with
    | [a, b] => subB ⟨k, d, 0, 0, 0, 0⟩ a.1 a.2 && subB ⟨k, d, 0, 0, 0, 0⟩ b.1 b.2 && upto (p2 d) fun u => (memF d v w (p2 d + u) == (memF d a.1.toNat a.2.toNat (p2 d + u) || memF d b.1.toNat b.2.toNat (p2 d + u))) && !(memF d a.1.toNat a.2.toNat (p2 d + u) && memF d b.1.toNat b.2.toNat (p2 d + u))
    | _ => false))
theorem sp_tab1 : (upto 7 fun d => upto 128 fun v => spOK 1 d v 0) = true := by decide +kernel
theorem sp_tab2 : (upto 7 fun d => upto 2 fun k => spOK (k + 2) d 1 0 && upto 128 fun w => upto 6 fun i => Nat.ble (sh w (i + 1)) 0 || spOK (k + 2) d (sh w (i + 1)) w) = true := by decide +kernel
end Go.Proofs.YtoegpalacppllaaGreat.Tr

/- Plain laws of subsets that are split, and of partitions. No program is in sight here. -/
namespace Go.Proofs.YtoegpalacppllaaGreat.Tr
open Hn

theorem sp_all {s : Sc} {v w : Int} (hs : schB s = true) (hx : subB s v w = true) : ∃ k d v' w' : Nat, s = ⟨k, d, 0, 0, 0, 0⟩ ∧ v = v' ∧ w = w' ∧ spOK k d v' w' = true := by
  obtain ⟨k1, k3, d0, d6, hg, hp, hq, hr⟩ := schB_iff.1 hs
  obtain ⟨hx1, hx2, hx3, hx4⟩ := sub_x d6 hx
  obtain ⟨p1, p2', p3, p4⟩ := sub_parts hx
  obtain ⟨k, d, g, p, q, r⟩ := s
  simp only at *
  subst hg hp hq hr
  obtain ⟨k, rfl⟩ : ∃ n : Nat, k = n := ⟨k.toNat, by omega⟩
  obtain ⟨d, rfl⟩ : ∃ n : Nat, d = n := ⟨d.toNat, by omega⟩
  obtain ⟨v, rfl⟩ : ∃ n : Nat, v = n := ⟨v.toNat, by omega⟩
  obtain ⟨w, rfl⟩ : ∃ n : Nat, w = n := ⟨w.toNat, by omega⟩
  refine ⟨k, d, v, w, rfl, rfl, rfl, ?_⟩
  by_cases hk : k = 1
  · subst hk
    have hw := p2' rfl
    obtain rfl : w = 0 := by omega
    exact upto_get (upto_get sp_tab1 (show d < 7 by omega)) (show v < 128 by omega)
  · obtain ⟨k, rfl⟩ : ∃ j, k = j + 2 := ⟨k - 2, by omega⟩
    have h2 := upto_get (upto_get sp_tab2 (show d < 7 by omega)) (show k < 2 by omega)
    rw [Bool.and_eq_true] at h2
    by_cases hw : w = 0
    · subst hw
      have hv := p3 (by omega) rfl
      obtain rfl : v = 1 := by omega
      exact h2.1
    · obtain ⟨-, hne, hb, -⟩ := p4 (by omega) (by omega)
      simp only [Int.toNat_natCast] at hb
      obtain ⟨hl, he⟩ := below_iff.1 hb
      have hlw := lev_le (v := w) (by omega)
      have hlt : lev v < lev w := Nat.lt_of_le_of_ne hl fun e => by
        rw [e, Nat.sub_self] at he
        exact hne (by rw [show w = v from he])
      have h3 := upto_get (upto_get h2.2 (show w < 128 by omega)) (show lev w - lev v - 1 < 6 by omega)
      rw [show lev w - lev v - 1 + 1 = lev w - lev v by omega, he, Bool.or_eq_true, Nat.ble_eq] at h3
      rcases h3 with h3 | h3
      · omega
      · exact h3
theorem members_cnt {k d v w : Nat} : (membersN ⟨k, d, 0, 0, 0, 0⟩ v w (p2 d)).length = cntF d v w := by
  rw [membersN, List.length_map, cntF]
  refine congrArg List.length (List.filter_congr fun u hu => ?_)
  have := memF_eq (s := ⟨k, d, 0, 0, 0, 0⟩) (v := v) (w := w) (u := u) (by omega) (List.mem_range.1 hu)
  simpa using this
theorem members_pos {s : Sc} {v w : Int} (hs : schB s = true) (hx : subB s v w = true) : 0 < (membersN s v w (p2 s.d.toNat)).length := by
  obtain ⟨k, d, v, w, rfl, rfl, rfl, h⟩ := sp_all hs hx
  rw [spOK, hx, Bool.not_true, Bool.false_or, Bool.and_eq_true, Bool.not_eq_true'] at h
  rw [show (Sc.d ⟨(k : Int), (d : Int), 0, 0, 0, 0⟩).toNat = d from rfl, members_cnt]
  have := h.1
  rw [← Bool.not_eq_true, Nat.beq_eq] at this
  omega
theorem split_law {s : Sc} {v w : Int} (hs : schB s = true) (hx : subB s v w = true) (h1 : (membersN s v w (p2 s.d.toNat)).length ≠ 1) : ∃ a b : Int × Int, splitV s v w = [a, b] ∧ subB s a.1 a.2 = true ∧ subB s b.1 b.2 = true ∧
    ∀ u, u < p2 s.d.toNat → memB s v w u = (memB s a.1 a.2 u || memB s b.1 b.2 u) ∧ (memB s a.1 a.2 u && memB s b.1 b.2 u) = false := by
  obtain ⟨k, d, v, w, rfl, rfl, rfl, h⟩ := sp_all hs hx
  obtain ⟨-, -, -, d6, -⟩ := schB_iff.1 hs
  rw [show (Sc.d ⟨(k : Int), (d : Int), 0, 0, 0, 0⟩).toNat = d from rfl, members_cnt] at h1
  rw [spOK, hx, Bool.not_true, Bool.false_or, Bool.and_eq_true, Bool.or_eq_true, Nat.beq_eq] at h
  have h := h.2.resolve_left h1
  generalize hsp : splitV ⟨(k : Int), (d : Int), 0, 0, 0, 0⟩ v w = l at h
  match l, hsp, h with
  | [a, b], hsp, h =>
    simp only [Bool.and_eq_true] at h
    obtain ⟨⟨ha, hb⟩, h⟩ := h
    refine ⟨a, b, rfl, ha, hb, fun u hu => ?_⟩
    have h := upto_get h hu
    have hxa := sub_x d6 ha
    have hxb := sub_x d6 hb
    rw [memF_eq (by omega) hu, memF_eq (by omega) hu, memF_eq (by omega) hu]
    simp only [Bool.and_eq_true, beq_iff_eq, Bool.not_eq_true'] at h
    exact h
theorem members_lt {s : Sc} {v w x : Int} {n : Nat} (h : x ∈ membersN s v w n) : 0 ≤ x ∧ x < n ∧ memB s v w x.toNat = true := by
  obtain ⟨u, hu, rfl⟩ := List.mem_map.1 h
  obtain ⟨h1, h2⟩ := List.mem_filter.1 hu
  have := List.mem_range.1 h1
  exact ⟨by omega, by omega, h2⟩
theorem members_mem {s : Sc} {v w : Int} {n u : Nat} (hu : u < n) (h : memB s v w u = true) : (u : Int) ∈ membersN s v w n := List.mem_map.2 ⟨u, List.mem_filter.2 ⟨List.mem_range.2 hu, h⟩, rfl⟩
theorem members_nodup (s : Sc) (v w : Int) (n : Nat) : (membersN s v w n).Nodup := by
  have h : ((List.range n).filter fun u => memB s v w u).Nodup := List.Pairwise.filter _ List.nodup_range
  exact List.pairwise_map.2 (List.Pairwise.imp (fun {a b : Nat} (h : a ≠ b) (e : (a : Int) = (b : Int)) => h (by omega)) (List.nodup_iff_pairwise_ne.1 h))
theorem filter_or {α : Type} {l : List α} {p q r : α → Bool} (h : ∀ x ∈ l, p x = (q x || r x) ∧ (q x && r x) = false) : (l.filter p).Perm (l.filter q ++ l.filter r) := by
  induction l with
  | nil => exact List.Perm.refl _
  | cons x l ih =>
    have ih := ih fun y hy => h y (List.mem_cons_of_mem _ hy)
    obtain ⟨h1, h2⟩ := h x List.mem_cons_self
    cases hq : q x with
    | true =>
      have hr : r x = false := by rw [hq, Bool.true_and] at h2; exact h2
      rw [List.filter_cons_of_pos (by rw [h1, hq]; rfl), List.filter_cons_of_pos hq, List.filter_cons_of_neg (by rw [hr]; decide)]
      exact List.Perm.cons _ ih
    | false =>
      cases hr : r x with
      | true =>
        rw [List.filter_cons_of_pos (by rw [h1, hr, Bool.or_true]), List.filter_cons_of_neg (by rw [hq]; decide), List.filter_cons_of_pos hr]
        exact (List.Perm.cons _ ih).trans List.perm_middle.symm
      | false =>
        rw [List.filter_cons_of_neg (by rw [h1, hq, hr]; decide), List.filter_cons_of_neg (by rw [hq]; decide), List.filter_cons_of_neg (by rw [hr]; decide)]
        exact ih
/-- the members of all of some subsets -/
def allm (s : Sc) (l : List (Int × Int)) : List Int := (mems s l).flatten
theorem allm_append (s : Sc) (l m : List (Int × Int)) : allm s (l ++ m) = allm s l ++ allm s m := by simp [allm, mems]
theorem allm_cons (s : Sc) (x : Int × Int) (l : List (Int × Int)) : allm s (x :: l) = membersN s x.1 x.2 (p2 s.d.toNat) ++ allm s l := by simp [allm, mems]
theorem split_perm {s : Sc} {v w : Int} (hs : schB s = true) (hx : subB s v w = true) (h1 : (membersN s v w (p2 s.d.toNat)).length ≠ 1) : (allm s (splitV s v w)).Perm (membersN s v w (p2 s.d.toNat)) ∧ (splitV s v w).length = 2 ∧ ∀ x ∈ splitV s v w, subB s x.1 x.2 = true := by
  obtain ⟨a, b, e, ha, hb, h⟩ := split_law hs hx h1
  rw [e]
  refine ⟨?_, rfl, fun x hx => ?_⟩
  · rw [allm_cons, allm_cons, show allm s [] = [] from rfl, List.append_nil, membersN, membersN, membersN, ← List.map_append]
    exact ((filter_or fun u hu => h u (List.mem_range.1 hu)).map _).symm
  · simp only [List.mem_cons, List.not_mem_nil, or_false] at hx
    rcases hx with rfl | rfl
    · exact ha
    · exact hb
/-- the subset with an index is taken out of a partition: what it is divided into is put in its place -/
def taken (s : Sc) (l : List (Int × Int)) (i : Nat) : List (Int × Int) := l.take i ++ ((if (membersN s (qn l i) (qm l i) (p2 s.d.toNat)).length = 1 then [] else splitV s (qn l i) (qm l i)) ++ l.drop (i + 1))
def takenM (s : Sc) (l : List (Int × Int)) (nm : List Int) (i : Nat) : List Int := if (membersN s (qn l i) (qm l i) (p2 s.d.toNat)).length = 1 then merged nm (membersN s (qn l i) (qm l i) (p2 s.d.toNat)) else nm
/-- what a trace keeps: subsets are valid; the members of all and the named ones are those that there were -/
structure Part (s : Sc) (tot : List Int) (l : List (Int × Int)) (nm : List Int) : Prop where
  sub : ∀ x ∈ l, subB s x.1 x.2 = true
  perm : (allm s l ++ nm).Perm tot
theorem cut_at {l : List (Int × Int)} {i : Nat} (hi : i < l.length) : l = l.take i ++ ((qn l i, qm l i) :: l.drop (i + 1)) := by
  have e : (qn l i, qm l i) = l[i] := by simp [qn, qm, List.getD_eq_getElem?_getD, hi]
  rw [e, List.getElem_cons_drop, List.take_append_drop]
theorem all_lt {s : Sc} {l : List (Int × Int)} {x : Int} (h : x ∈ allm s l) : 0 ≤ x ∧ x < (p2 s.d.toNat : Nat) := by
  obtain ⟨m, hm, hx⟩ := List.mem_flatten.1 h
  obtain ⟨y, -, rfl⟩ := List.mem_map.1 hm
  have := members_lt hx
  exact ⟨this.1, this.2.1⟩
/-- how far a trace can go on -/
def pot (s : Sc) (l : List (Int × Int)) : Nat := 2 * (allm s l).length - l.length
theorem allm_ge {s : Sc} (hs : schB s = true) : ∀ {l : List (Int × Int)}, (∀ x ∈ l, subB s x.1 x.2 = true) → l.length ≤ (allm s l).length
  | [], _ => Nat.zero_le _
  | x :: l, h => by
    have h1 := members_pos hs (h x List.mem_cons_self)
    have h2 := allm_ge hs (l := l) fun y hy => h y (List.mem_cons_of_mem _ hy)
    rw [allm_cons, List.length_append, List.length_cons]; omega
theorem Part.step {s : Sc} {tot nm : List Int} {l : List (Int × Int)} (hs : schB s = true) (ht : tot.Nodup) (hr : ∀ x ∈ tot, 0 ≤ x ∧ x < 64) (k : Part s tot l nm) {i : Nat} (hi : i < l.length) : Part s tot (taken s l i) (takenM s l nm i) ∧ pot s (taken s l i) < pot s l ∧ sortI (nm ++ membersN s (qn l i) (qm l i) (p2 s.d.toNat)) = merged nm (membersN s (qn l i) (qm l i) (p2 s.d.toNat)) := by
  have hc := cut_at hi
  have hsub : subB s (qn l i) (qm l i) = true := k.sub (qn l i, qm l i) (q_mem.2 ⟨i, hi, rfl⟩)
  have hge := allm_ge hs (l := taken s l i)
  have hge0 := allm_ge hs k.sub
  have hall : allm s l = allm s (l.take i) ++ (membersN s (qn l i) (qm l i) (p2 s.d.toNat) ++ allm s (l.drop (i + 1))) := by
    conv => lhs; rw [hc]
    rw [allm_append, allm_cons]
  have hll : l.length = (l.take i).length + (1 + (l.drop (i + 1)).length) := by
    conv => lhs; rw [hc]
    simp only [List.length_append, List.length_cons]; omega
  obtain ⟨m, hm⟩ : ∃ m, m = membersN s (qn l i) (qm l i) (p2 s.d.toNat) := ⟨_, rfl⟩
  have hnd : (allm s l ++ nm).Nodup := (k.perm.nodup_iff).2 ht
  have hsubm : (nm ++ m).Nodup ∧ ∀ x ∈ nm ++ m, 0 ≤ x ∧ x < 64 := by
    have hp : (allm s l ++ nm).Perm ((allm s (l.take i) ++ allm s (l.drop (i + 1))) ++ (nm ++ m)) := by
      rw [hall, ← hm, List.perm_iff_count]
      intro x
      simp only [List.count_append]; omega
    refine ⟨(List.nodup_append.1 ((hp.nodup_iff).1 hnd)).2.1, fun x hx => hr x (k.perm.subset (hp.symm.subset (List.mem_append_right _ hx)))⟩
  have hmrg : sortI (nm ++ m) = merged nm m := merged_sort hsubm.1 hsubm.2
  rw [hm] at hmrg
  by_cases h1 : (membersN s (qn l i) (qm l i) (p2 s.d.toNat)).length = 1
  · have e1 : taken s l i = l.take i ++ l.drop (i + 1) := by rw [taken, if_pos h1]; rfl
    have e2 : takenM s l nm i = merged nm (membersN s (qn l i) (qm l i) (p2 s.d.toNat)) := if_pos h1
    have hsb : ∀ x ∈ taken s l i, subB s x.1 x.2 = true := fun x hx => by
      rw [e1] at hx
      refine k.sub x ?_
      rw [hc]
      rcases List.mem_append.1 hx with hx | hx
      · exact List.mem_append_left _ hx
      · exact List.mem_append_right _ (List.mem_cons_of_mem _ hx)
    refine ⟨⟨hsb, ?_⟩, ?_, hmrg⟩
    · refine List.Perm.trans ?_ k.perm
      rw [e1, e2, allm_append, hall, ← hm]
      rw [← hm] at hmrg
      rw [← hmrg]
      have := sortI_perm (nm ++ m)
      rw [List.perm_iff_count] at *
      intro x
      have := this x
      simp only [List.count_append] at *; omega
    · have hge := hge hsb
      have hal : (allm s (taken s l i)).length + 1 = (allm s l).length := by
        rw [e1, allm_append, hall, List.length_append, List.length_append, List.length_append, h1]; omega
      have hln : (taken s l i).length + 1 = l.length := by rw [e1, hll, List.length_append]; omega
      unfold pot; omega
  · have e1 : taken s l i = l.take i ++ (splitV s (qn l i) (qm l i) ++ l.drop (i + 1)) := by rw [taken, if_neg h1]
    have e2 : takenM s l nm i = nm := if_neg h1
    obtain ⟨q1, q2, q3⟩ := split_perm hs hsub h1
    have hsb : ∀ x ∈ taken s l i, subB s x.1 x.2 = true := fun x hx => by
      rw [e1] at hx
      rcases List.mem_append.1 hx with hx | hx
      · exact k.sub x (by rw [hc]; exact List.mem_append_left _ hx)
      · rcases List.mem_append.1 hx with hx | hx
        · exact q3 x hx
        · exact k.sub x (by rw [hc]; exact List.mem_append_right _ (List.mem_cons_of_mem _ hx))
    refine ⟨⟨hsb, ?_⟩, ?_, hmrg⟩
    · refine List.Perm.trans ?_ k.perm
      rw [e1, e2, allm_append, allm_append, hall, List.perm_iff_count]
      rw [List.perm_iff_count] at q1
      intro x
      have := q1 x
      simp only [List.count_append] at *; omega
    · have hge := hge hsb
      have hal : (allm s (taken s l i)).length = (allm s l).length := by
        rw [e1, allm_append, allm_append, hall]
        simp only [List.length_append, q1.length_eq]
      have hln : (taken s l i).length = l.length + 1 := by rw [e1, hll]; simp only [List.length_append, q2]; omega
      unfold pot; omega
end Go.Proofs.YtoegpalacppllaaGreat.Tr

/- A trace: queries up to the first that is played, the search, rounds. No program is in sight here. -/
namespace Go.Proofs.YtoegpalacppllaaGreat.Tr
open Hn

/-- queries with a number of fakes, at most so many, up to the first that is played: the box, whether there was one, and how many queries there were, beside those before -/
def seenN (o : List Bool) (f : Int) : Nat → Bo → Nat → Bo × Bool × Nat
  | 0, b, n => (b, false, n)
  | k + 1, b, n => if plays b o f then (askd b o f, true, n + 1) else seenN o f k (askd b o f) (n + 1)
theorem seenN_zero (o : List Bool) (f : Int) (b : Bo) (n : Nat) : seenN o f 0 b n = (b, false, n) := rfl
theorem seenN_yes {o : List Bool} {f : Int} {k : Nat} {b : Bo} {n : Nat} (h : plays b o f = true) : seenN o f (k + 1) b n = (askd b o f, true, n + 1) := by rw [seenN, if_pos h]
theorem seenN_no {o : List Bool} {f : Int} {k : Nat} {b : Bo} {n : Nat} (h : plays b o f = false) : seenN o f (k + 1) b n = seenN o f k (askd b o f) (n + 1) := by rw [seenN, if_neg (by rw [h]; decide)]
theorem seenN_add (o : List Bool) (f : Int) (m : Nat) : ∀ (k : Nat) (b : Bo) (n : Nat), seenN o f k b (m + n) = ((seenN o f k b n).1, (seenN o f k b n).2.1, m + (seenN o f k b n).2.2)
  | 0, b, n => rfl
  | k + 1, b, n => by
    cases h : plays b o f with
    | true => rw [seenN_yes h, seenN_yes h]; rfl
    | false => rw [seenN_no h, seenN_no h, Nat.add_assoc, seenN_add o f m k]
/-- a box after so many queries -/
structure Askd (b0 b : Bo) (c : Nat) : Prop where
  s : b.s = b0.s
  l : b.l = b0.l
  m : b.m = b0.m
  n : b.n = b0.n
  v : b.v = b0.v
  k : b.k = b0.k
  a : b.a = b0.a + (c : Int)
  x0 : 0 ≤ b.x
  x1 : b.x ≤ b.a
  x2 : b0.x ≤ b.x
theorem Askd.refl {b : Bo} (h0 : 0 ≤ b.x) (h1 : b.x ≤ b.a) : Askd b b 0 := ⟨rfl, rfl, rfl, rfl, rfl, rfl, by simp, h0, h1, Int.le_refl _⟩
theorem Askd.ask {b0 b : Bo} {c : Nat} (h : Askd b0 b c) (o : List Bool) (f : Int) : Askd b0 (askd b o f) (c + 1) := by
  unfold askd after
  have := h.a
  have := h.x0
  have := h.x1
  have := h.x2
  split
  · exact ⟨h.s, h.l, h.m, h.n, h.v, h.k, by simp only; omega, by simp only; omega, by simp only; omega, by simp only; omega⟩
  · exact ⟨h.s, h.l, h.m, h.n, h.v, h.k, by simp only; omega, by simp only; omega, by simp only; omega, by simp only; omega⟩
theorem Askd.trans {b0 b1 b2 : Bo} {c d : Nat} (h : Askd b0 b1 c) (k : Askd b1 b2 d) : Askd b0 b2 (c + d) :=
  ⟨k.s.trans h.s, k.l.trans h.l, k.m.trans h.m, k.n.trans h.n, k.v.trans h.v, k.k.trans h.k, by rw [k.a, h.a]; omega, k.x0, k.x1, Int.le_trans h.x2 k.x2⟩
theorem seenN_run {b0 : Bo} (o : List Bool) (f : Int) : ∀ (k : Nat) {b : Bo} {c : Nat} (n : Nat), Askd b0 b c → ∃ j, j ≤ k ∧ Askd b0 (seenN o f k b n).1 (c + j) ∧ (seenN o f k b n).2.2 = n + j ∧ ((seenN o f k b n).2.1 = false → j = k)
  | 0, b, c, n, h => ⟨0, Nat.le_refl _, h, rfl, fun _ => rfl⟩
  | k + 1, b, c, n, h => by
    cases hp : plays b o f with
    | true => rw [seenN_yes hp]; exact ⟨1, by omega, h.ask o f, rfl, fun h => by cases h⟩
    | false =>
      rw [seenN_no hp]
      obtain ⟨j, h1, h2, h3, h4⟩ := seenN_run o f k (n + 1) (h.ask o f)
      exact ⟨j + 1, by omega, by rw [show c + (j + 1) = c + 1 + j by omega]; exact h2, by omega, fun e => by rw [h4 e]⟩
theorem plays_pos {b : Bo} {o : List Bool} {f : Int} (h : plays b o f = true) : 0 < o.length := by
  apply Classical.byContradiction
  intro hn
  obtain rfl : o = [] := List.eq_nil_of_length_eq_zero (by omega)
  exact absurd (show askW b 0 0 false = true from h) (by rw [ask_no (.inl rfl)]; decide)
theorem seenN_pos {o : List Bool} {f : Int} : ∀ {k : Nat} {b : Bo} {n : Nat}, (seenN o f k b n).2.1 = true → 0 < o.length
  | 0, b, n, h => by cases h
  | k + 1, b, n, h => by
    cases hp : plays b o f with
    | true => exact plays_pos hp
    | false => rw [seenN_no hp] at h; exact seenN_pos h
/-- the search: the box, the index low, and how many queries there were, beside those before -/
def searchN (o : List Bool) (N : Nat) : Nat → Nat → Nat → Bo → Nat → Bo × Nat × Nat
  | 0, low, _, b, a => (b, low, a)
  | k + 1, low, high, b, a => if high - low ≤ 1 then (b, low, a) else
    match seenN o (((low + high) / 2 : Nat) : Int) N b a with
    | (x, true, n) => searchN o N k ((low + high) / 2) high x n
    | (x, false, n) => searchN o N k low ((low + high) / 2) x n
theorem searchN_end {o : List Bool} {N k low high : Nat} {b : Bo} {a : Nat} (h : high - low ≤ 1) : searchN o N k low high b a = (b, low, a) := by
  cases k with
  | zero => rfl
  | succ k => rw [searchN, if_pos h]
theorem searchN_yes {o : List Bool} {N k low high : Nat} {b x : Bo} {a n : Nat} (h : ¬ high - low ≤ 1) (hs : seenN o (((low + high) / 2 : Nat) : Int) N b a = (x, true, n)) : searchN o N (k + 1) low high b a = searchN o N k ((low + high) / 2) high x n := by rw [searchN, if_neg h, hs]
theorem searchN_no {o : List Bool} {N k low high : Nat} {b x : Bo} {a n : Nat} (h : ¬ high - low ≤ 1) (hs : seenN o (((low + high) / 2 : Nat) : Int) N b a = (x, false, n)) : searchN o N (k + 1) low high b a = searchN o N k low ((low + high) / 2) x n := by rw [searchN, if_neg h, hs]
theorem searchN_fuel {o : List Bool} {N : Nat} : ∀ {k j low high : Nat} {b : Bo} {a : Nat}, high - low ≤ k → high - low ≤ j → searchN o N k low high b a = searchN o N j low high b a
  | 0, j, low, high, b, a, h, _ => by rw [searchN_end (by omega), searchN_end (by omega)]
  | k + 1, 0, low, high, b, a, _, h => by rw [searchN_end (by omega), searchN_end (by omega)]
  | k + 1, j + 1, low, high, b, a, h1, h2 => by
    by_cases h : high - low ≤ 1
    · rw [searchN_end h, searchN_end h]
    · rcases hs : seenN o (((low + high) / 2 : Nat) : Int) N b a with ⟨x, p, n⟩
      cases p with
      | true => rw [searchN_yes h hs, searchN_yes h hs]; exact searchN_fuel (by omega) (by omega)
      | false => rw [searchN_no h hs, searchN_no h hs]; exact searchN_fuel (by omega) (by omega)
theorem searchN_add (o : List Bool) (N m : Nat) : ∀ (k low high : Nat) (b : Bo) (a : Nat), searchN o N k low high b (m + a) = ((searchN o N k low high b a).1, (searchN o N k low high b a).2.1, m + (searchN o N k low high b a).2.2)
  | 0, low, high, b, a => rfl
  | k + 1, low, high, b, a => by
    by_cases h : high - low ≤ 1
    · rw [searchN_end h, searchN_end h]
    · have ha := seenN_add o (((low + high) / 2 : Nat) : Int) m N b a
      rcases hs : seenN o (((low + high) / 2 : Nat) : Int) N b a with ⟨x, p, n⟩
      rw [hs] at ha
      cases p with
      | true => rw [searchN_yes h hs, searchN_yes h ha]; exact searchN_add o N m k _ _ _ _
      | false => rw [searchN_no h hs, searchN_no h ha]; exact searchN_add o N m k _ _ _ _
theorem searchN_run {b0 : Bo} (o : List Bool) (N : Nat) : ∀ (k : Nat) {i low high : Nat} {b : Bo} {c : Nat} (a : Nat), Askd b0 b c → low < high → high - low ≤ p2 i →
    ∃ j, j ≤ i * N ∧ Askd b0 (searchN o N k low high b a).1 (c + j) ∧ (searchN o N k low high b a).2.2 = a + j ∧ low ≤ (searchN o N k low high b a).2.1 ∧ (searchN o N k low high b a).2.1 < high
  | 0, i, low, high, b, c, a, h, hl, _ => ⟨0, Nat.zero_le _, h, rfl, Nat.le_refl _, hl⟩
  | k + 1, i, low, high, b, c, a, h, hl, hi => by
    by_cases h1 : high - low ≤ 1
    · rw [searchN_end h1]; exact ⟨0, Nat.zero_le _, h, rfl, Nat.le_refl _, hl⟩
    · cases i with
      | zero => exact absurd hi h1
      | succ i =>
        rw [p2] at hi
        obtain ⟨j, j1, j2, j3, -⟩ := seenN_run o (((low + high) / 2 : Nat) : Int) N a h
        rcases hs : seenN o (((low + high) / 2 : Nat) : Int) N b a with ⟨x, p, n⟩
        rw [hs] at j2 j3
        simp only at j2 j3
        subst j3
        cases p with
        | true =>
          rw [searchN_yes h1 hs]
          obtain ⟨t, t1, t2, t3, t4, t5⟩ := searchN_run o N k (i := i) (low := (low + high) / 2) (high := high) (a + j) j2 (by omega) (by omega)
          exact ⟨j + t, by rw [Nat.succ_mul]; omega, by rw [← Nat.add_assoc]; exact t2, by omega, by omega, t5⟩
        | false =>
          rw [searchN_no h1 hs]
          obtain ⟨t, t1, t2, t3, t4, t5⟩ := searchN_run o N k (i := i) (low := low) (high := (low + high) / 2) (a + j) j2 (by omega) (by omega)
          exact ⟨j + t, by rw [Nat.succ_mul]; omega, by rw [← Nat.add_assoc]; exact t2, by omega, t4, by omega⟩
/-- a trace at work: the box, the partition, who was named, how many queries there were -/
structure Ts where
  b : Bo
  l : List (Int × Int)
  nm : List Int
  a : Nat
def Ts.o (t : Ts) : List Bool := opens t.b t.l t.l.length
/-- a round: the trace after it, and whether it ends (1: the box is not seen to play, 2: it is not any more) -/
def roundN (N : Nat) (t : Ts) : Ts × Nat :=
  match seenN t.o 0 N t.b t.a with
  | (b1, false, a1) => (⟨b1, t.l, t.nm, a1⟩, 1)
  | (b1, true, a1) =>
    match searchN t.o N t.o.length 0 t.o.length b1 a1 with
    | (b2, low, a2) =>
      match seenN t.o 0 N b2 a2 with
      | (b3, false, a3) => (⟨b3, t.l, t.nm, a3⟩, 2)
      | (b3, true, a3) => (⟨b3, taken t.b.s t.l low, takenM t.b.s t.l t.nm low, a3⟩, 0)
theorem round_1 {N : Nat} {t : Ts} {b1 : Bo} {a1 : Nat} (h : seenN t.o 0 N t.b t.a = (b1, false, a1)) : roundN N t = (⟨b1, t.l, t.nm, a1⟩, 1) := by rw [roundN, h]
theorem round_2 {N : Nat} {t : Ts} {b1 b2 b3 : Bo} {a1 a2 a3 low : Nat} (h : seenN t.o 0 N t.b t.a = (b1, true, a1)) (h2 : searchN t.o N t.o.length 0 t.o.length b1 a1 = (b2, low, a2)) (h3 : seenN t.o 0 N b2 a2 = (b3, false, a3)) : roundN N t = (⟨b3, t.l, t.nm, a3⟩, 2) := by rw [roundN, h]; simp only [h2, h3]
theorem round_0 {N : Nat} {t : Ts} {b1 b2 b3 : Bo} {a1 a2 a3 low : Nat} (h : seenN t.o 0 N t.b t.a = (b1, true, a1)) (h2 : searchN t.o N t.o.length 0 t.o.length b1 a1 = (b2, low, a2)) (h3 : seenN t.o 0 N b2 a2 = (b3, true, a3)) : roundN N t = (⟨b3, taken t.b.s t.l low, takenM t.b.s t.l t.nm low, a3⟩, 0) := by rw [roundN, h]; simp only [h2, h3]
def tracedN (N : Nat) : Nat → Ts → Ts × Nat
  | 0, t => (t, 0)
  | k + 1, t => match roundN N t with
    | (t', 0) => tracedN N k t'
    | r => r
def Ts.pot (t : Ts) : Nat := Tr.pot t.b.s t.l
/-- the trace from here on -/
def traced (N : Nat) (t : Ts) : Ts × Nat := tracedN N (t.pot + 1) t
/-- what holds of a trace at work that began with a box and these members -/
structure Tin (N : Nat) (b0 : Bo) (tot : List Int) (t : Ts) : Prop where
  ask : Askd b0 t.b t.a
  part : Part b0.s tot t.l t.nm
  fit : t.a + (t.pot + 1) * ((b0.s.d.toNat + 2) * N) ≤ (2 * p2 b0.s.d.toNat + 1) * ((b0.s.d.toNat + 2) * N)
theorem len_le {s : Sc} {tot nm : List Int} {l : List (Int × Int)} (hs : schB s = true) (ht : tot.Nodup) (k : Part s tot l nm) : (allm s l).length ≤ p2 s.d.toNat ∧ l.length ≤ p2 s.d.toNat := by
  have h1 : (allm s l).Nodup := (List.nodup_append.1 ((k.perm.nodup_iff).2 ht)).1
  have h2 : (allm s l).length ≤ p2 s.d.toNat := by
    have := List.Nodup.length_le_of_subset (l₂ := (List.range (p2 s.d.toNat)).map fun u : Nat => (u : Int)) h1 fun x hx => by
      have := all_lt hx
      exact List.mem_map.2 ⟨x.toNat, List.mem_range.2 (by omega), by omega⟩
    simpa using this
  exact ⟨h2, Nat.le_trans (allm_ge hs k.sub) h2⟩
theorem opens_length (t : Ts) : t.o.length = t.l.length := opens_len _ _ _
/-- what a round does -/
theorem Tin.round {N : Nat} {b0 : Bo} {tot : List Int} {t : Ts} (hs : schB b0.s = true) (ht : tot.Nodup) (hr : ∀ x ∈ tot, 0 ≤ x ∧ x < 64) (k : Tin N b0 tot t) :
    ((roundN N t).2 = 0 → Tin N b0 tot (roundN N t).1 ∧ (roundN N t).1.pot < t.pot) ∧ Askd b0 (roundN N t).1.b (roundN N t).1.a ∧ (roundN N t).1.a ≤ (2 * p2 b0.s.d.toNat + 1) * ((b0.s.d.toNat + 2) * N) ∧ Part b0.s tot (roundN N t).1.l (roundN N t).1.nm := by
  obtain ⟨hl1, hl2⟩ := len_le hs ht k.part
  have hfit := k.fit
  rw [Nat.succ_mul] at hfit
  have hk : (b0.s.d.toNat + 2) * N = b0.s.d.toNat * N + 2 * N := Nat.add_mul _ _ _
  obtain ⟨j, j1, j2, j3, -⟩ := seenN_run t.o 0 N t.a k.ask
  rcases hs1 : seenN t.o 0 N t.b t.a with ⟨b1, p1, a1⟩
  rw [hs1] at j2 j3
  simp only at j2 j3
  subst j3
  cases p1 with
  | false =>
    rw [round_1 hs1]
    exact ⟨fun h => absurd h (show ¬ (1 : Nat) = 0 by decide), j2, by simp only; omega, k.part⟩
  | true =>
    have hpos : 0 < t.o.length := seenN_pos (k := N) (b := t.b) (n := t.a) (f := 0) (by rw [hs1])
    obtain ⟨q, q1, q2, q3, q4, q5⟩ := searchN_run t.o N t.o.length (i := b0.s.d.toNat) (low := 0) (high := t.o.length) (t.a + j) j2 hpos (by rw [opens_length]; omega)
    rcases hs2 : searchN t.o N t.o.length 0 t.o.length b1 (t.a + j) with ⟨b2, low, a2⟩
    rw [hs2] at q2 q3 q4 q5
    simp only at q2 q3 q4 q5
    subst q3
    obtain ⟨i, i1, i2, i3, -⟩ := seenN_run t.o 0 N (t.a + j + q) q2
    rcases hs3 : seenN t.o 0 N b2 (t.a + j + q) with ⟨b3, p3, a3⟩
    rw [hs3] at i2 i3
    simp only at i2 i3
    subst i3
    cases p3 with
    | false =>
      rw [round_2 hs1 hs2 hs3]
      exact ⟨fun h => absurd h (show ¬ (2 : Nat) = 0 by decide), i2, by simp only; omega, k.part⟩
    | true =>
      rw [round_0 hs1 hs2 hs3]
      obtain ⟨c1, c2, -⟩ := k.part.step hs ht hr (i := low) (by rw [← opens_length]; exact q5)
      have es := k.ask.s
      rw [es]
      refine ⟨fun _ => ⟨⟨i2, c1, ?_⟩, ?_⟩, i2, by simp only; omega, c1⟩
      · simp only [Ts.pot, i2.s]
        simp only [Ts.pot, es] at hfit
        have := Nat.mul_le_mul_right ((b0.s.d.toNat + 2) * N) (show Tr.pot b0.s (taken b0.s t.l low) + 1 ≤ Tr.pot b0.s t.l by omega)
        omega
      · simp only [Ts.pot, i2.s, es]; exact c2
theorem tracedN_0 {N k : Nat} {t : Ts} (h : (roundN N t).2 = 0) : tracedN N (k + 1) t = tracedN N k (roundN N t).1 := by
  rcases hr : roundN N t with ⟨t', e⟩
  rw [hr] at h
  simp only at h
  subst h
  rw [tracedN, hr]
  rfl
theorem tracedN_e {N k : Nat} {t : Ts} (h : (roundN N t).2 ≠ 0) : tracedN N (k + 1) t = roundN N t := by
  rcases hr : roundN N t with ⟨t', e⟩
  rw [hr] at h
  rw [tracedN, hr]
  match e, h with
  | e + 1, _ => rfl
theorem tracedN_fuel {N : Nat} {b0 : Bo} {tot : List Int} (hs : schB b0.s = true) (ht : tot.Nodup) (hr : ∀ x ∈ tot, 0 ≤ x ∧ x < 64) : ∀ {k j : Nat} {t : Ts}, Tin N b0 tot t → t.pot < k → t.pot < j → tracedN N k t = tracedN N j t
  | 0, j, t, _, h, _ => by omega
  | k + 1, 0, t, _, _, h => by omega
  | k + 1, j + 1, t, hi, h1, h2 => by
    by_cases h : (roundN N t).2 = 0
    · obtain ⟨h3, h4⟩ := (hi.round hs ht hr).1 h
      rw [tracedN_0 h, tracedN_0 h]
      exact tracedN_fuel hs ht hr h3 (by omega) (by omega)
    · rw [tracedN_e h, tracedN_e h]
theorem traced_0 {N : Nat} {b0 : Bo} {tot : List Int} {t : Ts} (hs : schB b0.s = true) (ht : tot.Nodup) (hr : ∀ x ∈ tot, 0 ≤ x ∧ x < 64) (hi : Tin N b0 tot t) (h : (roundN N t).2 = 0) : traced N t = traced N (roundN N t).1 := by
  obtain ⟨h3, h4⟩ := (hi.round hs ht hr).1 h
  rw [traced, traced, tracedN_0 h]
  exact tracedN_fuel hs ht hr h3 (by omega) (by omega)
theorem traced_e {N : Nat} {t : Ts} (h : (roundN N t).2 ≠ 0) : traced N t = roundN N t := tracedN_e h
/-- the error of a partition -/
def partsE (s : Sc) (l : List (Int × Int)) : Int := if chk s ≠ 0 then chk s else if subsE s l ≠ 0 then subsE s l else if (allm s l).Nodup then 0 else 81
theorem parts_s {s : Sc} {l : List (Int × Int)} (h : chk s ≠ 0) : partsE s l = chk s := if_pos h
theorem parts_l {s : Sc} {l : List (Int × Int)} (h : ¬ chk s ≠ 0) (h2 : subsE s l ≠ 0) : partsE s l = subsE s l := by rw [partsE, if_neg h, if_pos h2]
theorem parts_n {s : Sc} {l : List (Int × Int)} (h : ¬ chk s ≠ 0) (h2 : ¬ subsE s l ≠ 0) (h3 : ¬ (allm s l).Nodup) : partsE s l = 81 := by rw [partsE, if_neg h, if_neg h2, if_neg h3]
theorem parts_y {s : Sc} {l : List (Int × Int)} (h : ¬ chk s ≠ 0) (h2 : ¬ subsE s l ≠ 0) (h3 : (allm s l).Nodup) : partsE s l = 0 := by rw [partsE, if_neg h, if_neg h2, if_pos h3]
theorem parts_ok {s : Sc} {l : List (Int × Int)} (h : ¬ partsE s l ≠ 0) : schB s = true ∧ subsE s l = 0 ∧ (allm s l).Nodup := by
  by_cases h1 : chk s ≠ 0
  · rw [parts_s h1] at h; exact absurd h1 h
  · by_cases h2 : subsE s l ≠ 0
    · rw [parts_l h1 h2] at h; exact absurd h2 h
    · by_cases h3 : (allm s l).Nodup
      · exact ⟨chk_zero h1, by omega, h3⟩
      · rw [parts_n h1 h2 h3] at h; exact absurd (by decide) h
/-- the error of a trace, and what it finds -/
def traceE (b : Bo) (l : List (Int × Int)) (noise : Int) : Int :=
  if chkB b ≠ 0 then chkB b else if partsE b.s l ≠ 0 then partsE b.s l else if ¬ (0 ≤ noise ∧ noise ≤ 8) then 2 else if 100000 < b.a + lim b.s.d noise then 9 else 0
def traceT (b : Bo) (l : List (Int × Int)) (noise : Int) : Ts × Nat := if traceE b l noise = 0 then traced (2 * noise.toNat + 1) ⟨b, l, [], 0⟩ else (⟨noBo, [], [], 0⟩, 0)
theorem trE_b {b : Bo} {l : List (Int × Int)} {n : Int} (h : chkB b ≠ 0) : traceE b l n = chkB b := if_pos h
theorem trE_p {b : Bo} {l : List (Int × Int)} {n : Int} (h : ¬ chkB b ≠ 0) (h2 : partsE b.s l ≠ 0) : traceE b l n = partsE b.s l := by rw [traceE, if_neg h, if_pos h2]
theorem trE_n {b : Bo} {l : List (Int × Int)} {n : Int} (h : ¬ chkB b ≠ 0) (h2 : ¬ partsE b.s l ≠ 0) (h3 : ¬ (0 ≤ n ∧ n ≤ 8)) : traceE b l n = 2 := by rw [traceE, if_neg h, if_neg h2, if_pos h3]
theorem trE_f {b : Bo} {l : List (Int × Int)} {n : Int} (h : ¬ chkB b ≠ 0) (h2 : ¬ partsE b.s l ≠ 0) (h3 : 0 ≤ n ∧ n ≤ 8) (h4 : 100000 < b.a + lim b.s.d n) : traceE b l n = 9 := by rw [traceE, if_neg h, if_neg h2, if_neg (by simpa using h3), if_pos h4]
theorem trE_0 {b : Bo} {l : List (Int × Int)} {n : Int} (h : ¬ chkB b ≠ 0) (h2 : ¬ partsE b.s l ≠ 0) (h3 : 0 ≤ n ∧ n ≤ 8) (h4 : ¬ 100000 < b.a + lim b.s.d n) : traceE b l n = 0 := by rw [traceE, if_neg h, if_neg h2, if_neg (by simpa using h3), if_neg h4]
theorem lim_nat {d n : Int} (h0 : 0 ≤ d) (n0 : 0 ≤ n) : lim d n = (((2 * p2 d.toNat + 1) * ((d.toNat + 2) * (2 * n.toNat + 1)) : Nat) : Int) := by
  obtain ⟨d', rfl⟩ : ∃ k : Nat, d = k := ⟨d.toNat, by omega⟩
  obtain ⟨n', rfl⟩ : ∃ k : Nat, n = k := ⟨n.toNat, by omega⟩
  rw [lim, Int.toNat_natCast, Int.toNat_natCast, ← Nat.mul_assoc]
  push_cast
  rfl
theorem Tin.first {b : Bo} {l : List (Int × Int)} {N : Nat} (hs : schB b.s = true) (h0 : 0 ≤ b.x) (h1 : b.x ≤ b.a) (hl : ∀ i, i < l.length → subB b.s (qn l i) (qm l i) = true) (hn : (allm b.s l).Nodup) : Tin N b (allm b.s l) ⟨b, l, [], 0⟩ := by
  have hp : Part b.s (allm b.s l) l [] := ⟨fun x hx => by
    obtain ⟨i, hi, e⟩ := q_mem.1 hx
    rw [e]; exact hl i hi, by rw [List.append_nil]⟩
  refine ⟨Askd.refl h0 h1, hp, ?_⟩
  obtain ⟨h2, h3⟩ := len_le hs hn hp
  simp only [Nat.zero_add]
  exact Nat.mul_le_mul_right _ (by simp only [Ts.pot, pot]; omega)
end Go.Proofs.YtoegpalacppllaaGreat.Tr

/- Partitions: receivers that are in two subsets; lists in which neighbours are equal. No program is in sight here. -/
namespace Go.Proofs.YtoegpalacppllaaGreat.Tr
open Hn

/-- how many of the first subsets a receiver is a member of -/
def cntR (s : Sc) (l : List (Int × Int)) (u : Nat) : Nat → Nat
  | 0 => 0
  | i + 1 => cntR s l u i + (if memB s (qn l i) (qm l i) u then 1 else 0)
theorem cntR_yes {s : Sc} {l : List (Int × Int)} {u i : Nat} (h : memB s (qn l i) (qm l i) u = true) : cntR s l u (i + 1) = cntR s l u i + 1 := by rw [cntR, if_pos h]
theorem cntR_no {s : Sc} {l : List (Int × Int)} {u i : Nat} (h : memB s (qn l i) (qm l i) u = false) : cntR s l u (i + 1) = cntR s l u i := by rw [cntR, if_neg (by rw [h]; decide)]; rfl
theorem cntR_le (s : Sc) (l : List (Int × Int)) (u : Nat) : ∀ i, cntR s l u i ≤ i
  | 0 => Nat.le_refl _
  | i + 1 => by
    have := cntR_le s l u i
    rw [cntR]; split <;> omega
theorem count_members {s : Sc} {v w : Int} {n u : Nat} (hu : u < n) : (membersN s v w n).count (u : Int) = if memB s v w u then 1 else 0 := by
  have hn := List.nodup_iff_count.1 (members_nodup s v w n) (u : Int)
  split
  next h =>
    have := List.count_pos_iff.2 (members_mem hu h)
    omega
  next h =>
    rw [List.count_eq_zero]
    intro hm
    exact h (by simpa using (members_lt hm).2.2)
theorem take_q {l : List (Int × Int)} {i : Nat} (hi : i < l.length) : l.take (i + 1) = l.take i ++ [(qn l i, qm l i)] := by
  have e : (qn l i, qm l i) = l[i] := by simp [qn, qm, List.getD_eq_getElem?_getD, hi]
  rw [List.take_succ_eq_append_getElem hi, e]
theorem cntR_take {s : Sc} {l : List (Int × Int)} {u : Nat} (hu : u < p2 s.d.toNat) : ∀ i, i ≤ l.length → cntR s l u i = (allm s (l.take i)).count (u : Int)
  | 0, _ => by simp [cntR, allm, mems]
  | i + 1, h => by
    rw [take_q (by omega), allm_append, List.count_append, ← cntR_take hu i (by omega), allm_cons, show allm s [] = [] from rfl, List.append_nil, count_members hu, cntR]
theorem cntR_all {s : Sc} {l : List (Int × Int)} {u : Nat} (hu : u < p2 s.d.toNat) : cntR s l u l.length = (allm s l).count (u : Int) := by
  rw [cntR_take hu _ (Nat.le_refl _), List.take_length]
theorem parts_two {s : Sc} {l : List (Int × Int)} {u : Nat} (hu : u < p2 s.d.toNat) (h : 1 < cntR s l u l.length) : ¬ (allm s l).Nodup := fun hn => by
  have := List.nodup_iff_count.1 hn (u : Int)
  rw [← cntR_all hu] at this
  omega
theorem parts_one {s : Sc} {l : List (Int × Int)} (h : ∀ u, u < p2 s.d.toNat → ¬ 1 < cntR s l u l.length) : (allm s l).Nodup := by
  refine List.nodup_iff_count.2 fun a => ?_
  by_cases ha : a ∈ allm s l
  · have := all_lt ha
    obtain ⟨u, rfl⟩ : ∃ u : Nat, a = u := ⟨a.toNat, by omega⟩
    have := h u (by omega)
    rw [cntR_all (by omega)] at this
    omega
  · rw [List.count_eq_zero.2 ha]; omega
/-- a list in order is made shorter just if it has something twice -/
theorem compact_lt {l : List Int} (hs : l.Pairwise (fun x y => x ≤ y)) : (Lib.compact l).length < l.length ↔ ¬ l.Nodup := by
  constructor
  · intro h hn
    rw [Lib.compact_all l fun j hj => ?_] at h
    · omega
    · cases j with
      | zero => exact Lib.keeps_lt_one _ 0 (by omega)
      | succ j =>
        refine Lib.keeps_pos ?_
        have h2 := List.pairwise_iff_getElem.1 hn j (j + 1) (by omega) hj (by omega)
        simp only [Nat.add_sub_cancel]
        rw [getElem!_pos _ (j + 1) (by simpa using hj), getElem!_pos _ j (by simp; omega)]
        simpa using h2.symm
  · intro hn
    have hle := Lib.compact_length_le l
    apply Classical.byContradiction
    intro hlt
    have he : (Lib.compact l).length = l.length := by omega
    apply hn
    unfold Lib.compact Lib.compactUpTo at he
    rw [List.length_map] at he
    have hall : ∀ j ∈ List.range l.length, Lib.keeps l.toArray j = true := List.length_filter_eq_length_iff.1 (by rw [he, List.length_range])
    refine List.pairwise_iff_getElem.2 fun i j hi hj hij => ?_
    have h1 := hall j (List.mem_range.2 hj)
    rw [Lib.keeps, decide_eq_true_eq] at h1
    have h2 := h1.resolve_left (by omega)
    rw [getElem!_pos _ j (by simpa using hj), getElem!_pos _ (j - 1) (by simp; omega)] at h2
    have h3 : l[i] ≤ l[j - 1] := by
      rcases Nat.lt_or_ge i (j - 1) with h | h
      · exact List.pairwise_iff_getElem.1 hs i (j - 1) hi (by omega) h
      · obtain rfl : i = j - 1 := by omega
        exact Int.le_refl _
    have h4 : l[j - 1] ≤ l[j] := List.pairwise_iff_getElem.1 hs (j - 1) j (by omega) hj (by omega)
    simp only [List.getElem_toArray] at h2
    omega
theorem compact_sort {l : List Int} : (Lib.compact (sortI l)).length < l.length ↔ ¬ l.Nodup := by
  have := compact_lt (sortI_le l)
  rw [sortI_len] at this
  rw [this, (sortI_perm l).nodup_iff]
end Go.Proofs.YtoegpalacppllaaGreat.Tr

/- Making numbers in memory of one's own shorter; copies of lists of subsets. No function of the program is in sight here. -/
namespace Go.Proofs.YtoegpalacppllaaGreat
open Go.RowKit Go.Sort Pl Tr Hn

/-- what slices.Compact does -/
structure CompI (P : Program) (f : FuncId) : Prop where
  some : ∀ (blk off cap : Nat) (zs : List Int) (w : World), Holds (Value.int .i64) w blk off zs.toArray → zs.length ≤ 9223372036854775807 → zs.length ≤ cap →
    Calls P f #[.slice (some ⟨blk, off, none⟩) zs.length cap] w fun e w' => e = .returned (.slice (some ⟨blk, off, none⟩) (Lib.compact zs).length cap) ∧ ∃ q, w' = putRow (Value.int .i64) (Sort.ahead w q) blk off (Lib.compact zs ++ List.replicate (zs.length - (Lib.compact zs).length) 0).toArray
  none : ∀ (a : Option Addr) (cap : Nat) (w : World), Calls P f #[.slice a 0 cap] w fun e w' => e = .returned (.slice a 0 cap) ∧ w' = w
theorem compact_nil : Lib.compact ([] : List Int) = [] := List.eq_nil_of_length_eq_zero (Nat.le_zero.1 (Lib.compact_length_le []))

section
variable {P : Program} {ops : Array Oper} {Q : Exit → Act → World → Prop} {bs : List Value} {us : List (Nat × Value)} {ds : List Deferred} {w0 : Base} {W W' : World} {rest : List Oper} {o : Oper} {L Bs : List Blk} {d : Nat} {v : Value} {r : Option (Option Nat)} {m : Nat}
theorem grownBy_put {w : World} {g n k : Nat} (d : Array Int) : w.grownBy (putRow (Value.int .i64) (Sort.ahead w n) g k d) (some g) := by
  refine ⟨rfl, rfl, rfl, by simp [putRow, mapBlock, Sort.ahead], fun j hj hne => ?_⟩
  have : g ≠ j := fun e => hne (by rw [e])
  simp [putRow, mapBlock, Sort.ahead, Array.getElem?_modify, this]
theorem heap_put {w : World} {g n k : Nat} {cur : Array Value} {e : TypeId} {fr : Nat × Nat} (d : Array Int) (hb : w.heap[g]? = some (.cells cur e fr)) :
    (putRow (Value.int .i64) (Sort.ahead w n) g k d).heap[g]? = some (.cells (putCells (Value.int .i64) k d cur) e fr) := by
  simp [putRow, mapBlock, Sort.ahead, Array.getElem?_modify, hb, onCells]
theorem compact_own {f : FuncId} (hC : CompI P f) {s : Sl} {l : List Int} (hN : NewI s l Bs) (hW : Cl w0 (L ++ Bs) W) (hl : l.length ≤ 4294967296) :
    Calls P f #[s.v] W fun e' w' => e' = .returned (.slice s.a (Lib.compact l).length s.c) ∧ Cl w0 L w' := by
  have hr := hN.rep.at hW (List.sublist_append_right L Bs)
  have hn := hN.n
  obtain ⟨a, n, c⟩ := s
  simp only at hn
  subst hn
  by_cases h0 : l.length = 0
  · obtain rfl : l = [] := List.eq_nil_of_length_eq_zero h0
    refine (hC.none a c W).mono ?_
    rintro e' w' ⟨rfl, rfl⟩
    rw [compact_nil]
    exact ⟨rfl, hW.sub (List.sublist_append_left L Bs)⟩
  · rcases hN.mem with h1 | ⟨x, hx, i, ha, hi⟩
    · exact absurd h1 h0
    · obtain ⟨b, k, hb, hc⟩ := hr.ptr (by omega)
      simp only at ha hb hi
      subst ha
      simp only [Option.some.injEq, Addr.mk.injEq, and_true] at hb
      obtain ⟨rfl, rfl⟩ := hb
      have hg : W.heap[x.id]? = some (.cells x.cs.toArray x.ty (0, 0)) := hW.holds x (List.mem_append_right _ hx)
      have hH : Holds (Value.int .i64) W x.id i l.toArray := by
        intro j hj
        have hj' : j < l.length := by simpa using hj
        refine ⟨?_, by simp [World.frozen?, hg]⟩
        rw [hc j hj']
        simp [hj']
      refine (hC.some x.id i c l W hH (by omega) hr.cap).mono ?_
      rintro e' w' ⟨rfl, q, rfl⟩
      obtain ⟨A, B, rfl⟩ := List.append_of_mem hx
      have hW1 : Cl w0 (⟨x.id, x.cs, x.ty⟩ :: L) W := by
        have hp : (L ++ (A ++ x :: B)).Perm ((x :: L) ++ (A ++ B)) := by
          refine (List.perm_middle (a := x) (l₁ := L ++ A) (l₂ := B) |>.symm.symm |> fun h => ?_)
          rw [← List.append_assoc]
          refine h.trans ?_
          rw [List.cons_append, List.append_assoc]
        exact (hW.perm hp).sub (List.sublist_append_left _ _)
      refine ⟨rfl, (Cl.regrown (cs := (putCells (Value.int .i64) i (Lib.compact l ++ List.replicate (l.length - (Lib.compact l).length) 0).toArray x.cs.toArray).toList) hW1 (grownBy_put (n := q) (k := i) _) (by simpa using heap_put (n := q) (k := i) _ hg)).drop 1⟩
theorem l_compact {f : FuncId} (hC : CompI P f) {s : Sl} {l : List Int} {x : Operand} {ts : Array TypeId} (hN : NewI s l Bs) (hW : Cl w0 (L ++ Bs) W) (hl : l.length ≤ 4294967296) (he : Enters P f) (hg : o.guard = none) (ho : o.op = .call { callee := .value (.func f), args := #[x], argTypes := ts }) (hx : ev bs us x = s.v) (hd : o.dst = some d)
    (h : ∀ W', Cl w0 L W' → LW r m P ops Q rest (fr bs ((d, .slice s.a (Lib.compact l).length s.c) :: us) ds) W') : LW r m P ops Q (o :: rest) (fr bs us ds) W :=
  LW.call (wanted_none hg) (by rw [eval_ev]; exact run_call (args := [s.v]) he ho (by simp [hx]) W) ((compact_own hC hN hW hl).mono fun _ w ⟨he, hc⟩ => ⟨_, he, by show LW r m P ops Q rest ((fr bs us ds).put o.dst _) w; rw [hd, put_st]; exact h w hc⟩)
/-- subsets in memory of one's own -/
theorem OwnSl.repB {e : TypeId} {a : Option Addr} {n c : Nat} {l : List (Int × Int)} {Bs : List Blk} (hO : OwnSl e 2 a n c (sl2 l) Bs) : Rep Bs fun W => RdB W ⟨a, n, c⟩ l := fun b W hW => by
  have hn : n = l.length := by have := hO.1; rw [sl2_len] at this; omega
  refine ⟨⟨?_, fun h => (hO.nilOf h).2⟩, hn, OwnSl.rdS (L := []) hO (by simpa using hW)⟩
  rcases hO.2 with ⟨_, h1, h2, _⟩ | ⟨g, cur, _, _, h1, _⟩
  · simp [h1]
  · exact h1
theorem sl2_drop : ∀ (l : List (Int × Int)) (i : Nat), (sl2 l).drop (i * 2) = sl2 (l.drop i)
  | l, 0 => by simp
  | [], i + 1 => by simp [sl2]
  | x :: l, i + 1 => by rw [show (i + 1) * 2 = i * 2 + 1 + 1 by omega]; simp [sl2, sl2_drop l i]
theorem sl2_take : ∀ (l : List (Int × Int)) (i : Nat), (sl2 l).take (i * 2) = sl2 (l.take i)
  | l, 0 => by simp [sl2]
  | [], i + 1 => by simp [sl2]
  | x :: l, i + 1 => by rw [show (i + 1) * 2 = i * 2 + 1 + 1 by omega]; simp [sl2, sl2_take l i]
end
end Go.Proofs.YtoegpalacppllaaGreat

/- Members and lists of subsets, by the reference. -/
namespace Go.Proofs.YtoegpalacppllaaGreat
open Go.RowKit Pl
open Tr Hn
set_option maxRecDepth 10000 in
/-- headend/headendref03.MembersOf -/
theorem g_rMembersOf (s : Sc) (v x : Int) (hs : schB s = true) (hsx : subB s v x = true) : GivesX Tryz.prog 158 [.agg [.int .u8 s.k, .int .i64 s.d, .int .i64 s.g, .int .u64 s.p, .int .u64 s.q, .int .u64 s.r].toArray, .agg [.int .i64 v, .int .i64 x].toArray].toArray (fun _ => True) (NewSl 3 1 (membersN s v x (p2 s.d.toNat)).length (il (membersN s v x (p2 s.d.toNat)))) := by
 refine givesX_of Tryz.func158 rfl (bs := [.agg [.int .u8 s.k, .int .i64 s.d, .int .i64 s.g, .int .u64 s.p, .int .u64 s.q, .int .u64 s.r].toArray, .agg [.int .i64 v, .int .i64 x].toArray, undef, undef, undef, undef, undef, undef, undef, undef, undef, undef, undef, undef, undef, undef, undef, undef, undef, undef, undef, undef, undef]) rfl ?_
 intro w hP hW
 obtain ⟨k1, k3, d0, d6, -⟩ := schB_iff.1 hs
 have hp := p2_le (n := s.d.toNat) (by omega)
 refine c_seq (c_reg ?_)
 refine xB hW ?_
 intro g1 W hW
 refine xB hW ?_
 intro g2 W hW
 refine bS ?_
 refine l_end (n_then (c_seq (c_reg ?_)))
 refine bS ?_
 refine l_end (n_then (c_seq (c_seq (c_reg ?_))))
 refine bI ?_
 refine l_end (n_then (c_block ?_))
 refine c_loop (fun (z : Nat × Option Addr × Nat × List Blk × Nat) (j : Nat → Value) => [.agg [.int .u8 s.k, .int .i64 s.d, .int .i64 s.g, .int .u64 s.p, .int .u64 s.q, .int .u64 s.r].toArray, .agg [.int .i64 v, .int .i64 x].toArray, .pointer (some ⟨g1, 0, none⟩), .pointer (some ⟨g2, 0, none⟩), j 4, .slice z.2.1 z.2.2.2.2 z.2.2.1, .int .i64 (z.1 : Int), j 7, j 8, j 9, j 10, j 11, j 12, j 13, j 14, j 15, j 16, j 17, j 18, j 19, j 20, j 21, j 22]) (fun (z : Nat × Option Addr × Nat × List Blk × Nat) => [⟨g2, [.int .i64 v, .int .i64 x], 64⟩, ⟨g1, [.int .u8 s.k, .int .i64 s.d, .int .i64 s.g, .int .u64 s.p, .int .u64 s.q, .int .u64 s.r], 26⟩] ++ z.2.2.2.1) (fun (z : Nat × Option Addr × Nat × List Blk × Nat) => z.1 ≤ p2 s.d.toNat ∧ z.2.2.2.2 = (membersN s v x z.1).length ∧ OwnSl 3 1 z.2.1 z.2.2.2.2 z.2.2.1 (il (membersN s v x z.1)) z.2.2.2.1) (fun (z : Nat × Option Addr × Nat × List Blk × Nat) => p2 s.d.toNat - z.1) (0, none, 0, [], 0) (by kernel_rfl) (by simpa using hW) ⟨Nat.zero_le _, rfl, OwnSl.nil 3 1⟩ ?_
 intro z j W hx hW
 obtain ⟨hz, hzn, hO⟩ := hx
 refine c_seq (c_seq (c_reg ?_))
 refine aI ?_
 refine l_val (r_fieldAddr 1 Tryz.underlying26 rfl tyC3.size rfl rfl rfl) rfl rfl ?_
 refine dC hW 1 tyC3 ?_
 refine l_call hW (g_Receivers _ (by omega) (by omega)) en119 rfl rfl rfl rfl ?_
 intro W hW
 refine l_val (r_lssN rfl rfl rfl rfl) rfl rfl ?_
 refine l_split ?_ ?_
 ·intro hc1
  replace hc1 := of_decide_eq_true hc1
  refine l_end (n_then ?_)
  refine c_true rfl ?_
  refine c_skip (n_then (c_seq (c_block (c_seq (c_reg ?_)))))
  refine dA hW 1 tyA26 ?_
  refine dA hW 0 tyA64 ?_
  refine aI ?_
  refine l_call hW (g_rHas s v x z.1 hs hsx (by omega)) en120 rfl rfl rfl rfl ?_
  intro W hW
  refine l_split ?_ ?_
  ·intro hc2
   have hmx := mem_yes hc2
   have hyes := hc2
   have hml := mem_len s v x (z.1 + 1)
   refine l_end (n_then ?_)
   refine c_true rfl ?_
   refine c_reg ?_
   refine aS ?_
   refine aI ?_
   refine l_buildSliceF hW (bsl27_1_0 _) rfl rfl rfl rfl ?_
   intro gb W hW
   refine l_appendB tyE27 (L := [_, _, _]) hO hW 0 (N := (membersN s v x (z.1 + 1)).length) (by rw [mem_yes hyes, List.length_append]; simp only [List.length_cons, List.length_nil]; omega) rfl rfl rfl rfl rfl rfl rfl (by simp [Value.oneCell']) (by unfold maxLen; omega) (by omega) ?_
   intro a1 c1 Bs1 W hO1 hW
   replace hO1 := hO1.castx rfl (xs' := il (membersN s v x (z.1 + 1))) (by rw [mem_yes hyes, il_append]; rfl)
   refine bS ?_
   refine l_end (n_block (n_then (c_reg ?_)))
   refine aI ?_
   refine l_val (r_addN (n := 1) rfl rfl rfl (by omega)) rfl rfl ?_
   refine bI ?_
   refine l_end (n_then ?_)
   exact loop_next (z.1 + 1, a1, c1, Bs1, (membersN s v x (z.1 + 1)).length) (by kernel_rfl) (hW.drop 1) ⟨by simp only; omega, rfl, hO1⟩ (by simp only; omega)
  ·intro hc2
   have hmx := mem_no hc2
   refine l_end (n_then ?_)
   refine c_false rfl ?_
   refine c_skip (n_block (n_then (c_reg ?_)))
   refine aI ?_
   refine l_val (r_addN (n := 1) rfl rfl rfl (by omega)) rfl rfl ?_
   refine bI ?_
   refine l_end (n_then ?_)
   exact loop_next (z.1 + 1, z.2.1, z.2.2.1, z.2.2.2.1, z.2.2.2.2) (by kernel_rfl) hW ⟨by simp only; omega, by simp only [hmx]; exact hzn, by simp only [hmx]; exact hO⟩ (by simp only; omega)
 ·intro hc1
  replace hc1 := of_decide_eq_false hc1
  refine l_end (n_then ?_)
  refine c_false rfl ?_
  refine c_exit (x_then (x_then ?_))
  refine x_hit ?_
  refine n_then (c_seq (c_reg ?_))
  refine aS ?_
  refine bS ?_
  refine l_end (n_then (c_ret ?_))
  refine ret_tmp (v := .slice _ _ _) rfl rfl ?_
  have e : z.1 = p2 s.d.toNat := by omega
  rw [← e, ← hzn]
  exact ⟨_, _, rfl, ⟨_, _, rfl, hO⟩, hW.sub (List.sublist_append_right _ _)⟩

theorem sameB_no {l m : List (Int × Int)} {i : Nat} (h : ¬ (qn l i = qn m i ∧ qm l i = qm m i)) : decide (l = m) = false := decide_eq_false fun e => h (by rw [e]; exact ⟨rfl, rfl⟩)
theorem sameB_len {l m : List (Int × Int)} (h : l.length ≠ m.length) : decide (l = m) = false := decide_eq_false fun e => h (by rw [e])
theorem sameB_yes {l m : List (Int × Int)} (hl : l.length = m.length) (h : ∀ k, k < l.length → qn l k = qn m k ∧ qm l k = qm m k) : decide (l = m) = true := by
 refine decide_eq_true (List.ext_getElem hl fun i h1 h2 => ?_)
 obtain ⟨e1, e2⟩ := h i h1
 simp only [qn, qm, List.getD_eq_getElem?_getD, h1, h2, List.getElem?_eq_getElem, Option.getD_some] at e1 e2
 exact Prod.ext e1 e2
set_option maxRecDepth 10000 in
/-- headend/headendref03.SameSubsets -/
theorem g_rSameSubsets (aa : Option Addr) (an ac : Nat) (l : List (Int × Int)) (ba : Option Addr) (bn bc : Nat) (m : List (Int × Int)) (hl : l.length ≤ 4294967296) : GivesR Tryz.prog 27 [.slice aa an ac, .slice ba bn bc].toArray (fun w => RdB w ⟨aa, an, ac⟩ l ∧ RdB w ⟨ba, bn, bc⟩ m) (.bool (decide (l = m))) := by
 refine givesR_of Tryz.func27 rfl (bs := [.slice aa an ac, .slice ba bn bc, undef, undef, undef, undef, undef, undef, undef, undef, undef, undef, undef, undef, undef, undef, undef, undef, undef, undef, undef, undef, undef, undef, undef, undef]) rfl ?_
 intro w hP hW
 have hn : an = l.length := hP.1.len
 have hm : bn = m.length := hP.2.len
 refine c_seq (c_reg ?_)
 refine bB ?_
 refine l_end (n_then (c_seq (c_seq (c_reg ?_))))
 refine aS ?_
 refine l_val (r_lenSlice Tryz.underlying33 rfl rfl) rfl rfl ?_
 refine aS ?_
 refine l_val (r_lenSlice Tryz.underlying33 rfl rfl) rfl rfl ?_
 refine l_val (r_neqN rfl rfl rfl rfl) rfl rfl ?_
 refine l_split ?_ ?_
 ·intro hc1
  replace hc1 := of_decide_eq_true hc1
  refine l_end (n_then ?_)
  refine c_true rfl ?_
  refine c_seq (c_reg ?_)
  refine bB ?_
  refine l_end (n_then (c_ret (r_then ?_)))
  refine ret_tmp (v := .bool (decide (l = m))) rfl ?_ ⟨rfl, hW.below⟩
  rw [sameB_len (by omega)]; rfl
 ·intro hc1
  replace hc1 := of_decide_eq_false hc1
  refine l_end (n_then ?_)
  refine c_false rfl ?_
  refine c_skip (n_then (c_seq (c_seq (c_reg ?_))))
  refine bI ?_
  refine l_end (n_then (c_block ?_))
  refine c_loop (fun (i : Nat) (j : Nat → Value) => [.slice aa an ac, .slice ba bn bc, j 2, j 3, j 4, .int .i64 (i : Int), .slice aa an ac, j 7, .slice ba bn bc, j 9, .bool false, j 11, j 12, j 13, j 14, j 15, j 16, j 17, j 18, j 19, j 20, j 21, j 22, j 23, j 24, j 25]) (fun (i : Nat) => []) (fun (i : Nat) => i ≤ an ∧ ∀ k, k < i → qn l k = qn m k ∧ qm l k = qm m k) (fun (i : Nat) => an - i) 0 (by kernel_rfl) hW ⟨by omega, all_zero⟩ ?_
  intro i j W hx hW
  refine c_seq (c_seq (c_reg ?_))
  refine aI ?_
  refine aS ?_
  refine l_val (r_lenSlice Tryz.underlying33 rfl rfl) rfl rfl ?_
  refine l_val (r_lssN rfl rfl rfl rfl) rfl rfl ?_
  refine l_split ?_ ?_
  ·intro hc2
   replace hc2 := of_decide_eq_true hc2
   obtain ⟨b0, o0, ha, hc⟩ := hP.1.ptr (by omega)
   simp only at ha
   subst ha
   obtain ⟨b1, o1, ha, hd⟩ := hP.2.ptr (by omega)
   simp only at ha
   subst ha
   refine l_end (n_then ?_)
   refine c_true rfl ?_
   refine c_skip (n_then (c_seq (c_block (c_seq ?_))))
   refine c_regY hW [] [.q, .q, .q, .q, .q, .q, .q, .q, .q] [0, 0, 3, 7, 0, 0, 48, 112, 255] (by kernel_rfl) (by kernel_rfl) ?_
   refine yS ?_
   refine yI ?_
   refine y_val (r_indexAddrSlB (n := i) Tryz.underlying33 tyA64.size rfl rfl rfl (by omega)) rfl rfl ?_
   refine y_loadF2 tyA64 (hc i (by omega)).1 (hc i (by omega)).2 (by kernel_rfl) rfl rfl rfl ?_
   refine yS ?_
   refine yI ?_
   refine y_val (r_indexAddrSlB (n := i) Tryz.underlying33 tyA64.size rfl rfl rfl (by omega)) rfl rfl ?_
   refine y_loadF2 tyA64 (hd i (by omega)).1 (hd i (by omega)).2 (by kernel_rfl) rfl rfl rfl ?_
   refine y_val (r_neqS gd64 (eqS64 _ _ _ _) rfl rfl rfl rfl) rfl rfl ?_
   refine y_split ?_ ?_
   ·intro hc3
    replace hc3 := of_decide_eq_true hc3
    refine y_end ?_
    intro W hW
    refine n_then ?_
    refine c_true rfl ?_
    refine c_seq (c_reg ?_)
    refine bB ?_
    refine l_end (n_then (c_ret (r_block (r_then (r_then (r_block (r_then ?_)))))))
    refine ret_tmp (v := .bool (decide (l = m))) rfl ?_ ⟨rfl, hW.below⟩
    rw [sameB_no hc3]; rfl
   ·intro hc3
    replace hc3 := of_decide_eq_false hc3
    refine y_end ?_
    intro W hW
    refine n_then ?_
    refine c_false rfl ?_
    refine c_skip (n_block (n_then (c_reg ?_)))
    refine aI ?_
    refine l_val (r_addN (n := 1) rfl rfl rfl (by omega)) rfl rfl ?_
    refine bI ?_
    refine l_end (n_then ?_)
    exact loop_next (i + 1) (by kernel_rfl) hW ⟨by omega, all_upto hx.2 (Classical.not_not.1 hc3)⟩ (by omega)
  ·intro hc2
   replace hc2 := of_decide_eq_false hc2
   refine l_end (n_then ?_)
   refine c_false rfl ?_
   refine c_exit (x_then (x_then ?_))
   refine x_hit ?_
   refine n_then (c_seq (c_reg ?_))
   refine bB ?_
   refine l_end (n_then (c_ret ?_))
   refine ret_tmp (v := .bool (decide (l = m))) rfl ?_ ⟨rfl, hW.below⟩
   rw [sameB_yes (by omega) fun k hk => hx.2 k (by omega)]; rfl

end Go.Proofs.YtoegpalacppllaaGreat

/- Splits, by the reference. -/
namespace Go.Proofs.YtoegpalacppllaaGreat
open Go.RowKit Pl
open Tr Hn
theorem split_k1 {s : Sc} {v : Nat} {w : Int} (hk : s.k = 1) : splitV s v w = [(((2 * v : Nat) : Int), 0), (((2 * v + 1 : Nat) : Int), 0)] := by rw [splitV, if_pos hk]; push_cast; rfl
theorem split_w0 {s : Sc} {v : Int} (hk : s.k ≠ 1) : splitV s v 0 = [(1, 2), (1, 3)] := by rw [splitV, if_neg hk, if_pos rfl]
theorem split_s {s : Sc} {v x : Nat} (hk : s.k ≠ 1) (hx : x ≠ 0) (hc : sh x (lev x - lev v - 1) = x) : splitV s v x = [(((sib (sh x (lev x - lev v - 1)) : Nat) : Int), ((2 * sib (sh x (lev x - lev v - 1)) : Nat) : Int)), (((sib (sh x (lev x - lev v - 1)) : Nat) : Int), ((2 * sib (sh x (lev x - lev v - 1)) + 1 : Nat) : Int))] := by
 rw [splitV, if_neg hk, if_neg (by omega), Int.toNat_natCast, Int.toNat_natCast, if_pos hc, hc]; push_cast; rfl
theorem split_c {s : Sc} {v x : Nat} (hk : s.k ≠ 1) (hx : x ≠ 0) (hc : ¬ sh x (lev x - lev v - 1) = x) (h : subB s ((sh x (lev x - lev v - 1) : Nat) : Int) x = true) : splitV s v x = [((v : Int), ((sh x (lev x - lev v - 1) : Nat) : Int)), (((sh x (lev x - lev v - 1) : Nat) : Int), (x : Int))] := by
 rw [splitV, if_neg hk, if_neg (by omega), Int.toNat_natCast, Int.toNat_natCast, if_neg hc, if_pos h]
theorem split_b {s : Sc} {v x : Nat} (hk : s.k ≠ 1) (hx : x ≠ 0) (hc : ¬ sh x (lev x - lev v - 1) = x) (h : subB s ((sh x (lev x - lev v - 1) : Nat) : Int) x = false) : splitV s v x = [((v : Int), ((bet s.d x (lev x - lev v - 1) : Nat) : Int)), (((bet s.d x (lev x - lev v - 1) : Nat) : Int), (x : Int))] := by
 rw [splitV, if_neg hk, if_neg (by omega), Int.toNat_natCast, Int.toNat_natCast, if_neg hc, if_neg (by rw [h]; decide)]
set_option maxRecDepth 10000 in
/-- headend/headendref03.SplitOf -/
theorem g_rSplitOfN (s : Sc) (v x : Nat) (hs : schB s = true) (hsx : subB s v x = true) (h1 : (membersN s v x (p2 s.d.toNat)).length ≠ 1) : GivesX Tryz.prog 160 [.agg [.int .u8 s.k, .int .i64 s.d, .int .i64 s.g, .int .u64 s.p, .int .u64 s.q, .int .u64 s.r].toArray, .agg [.int .i64 (v : Int), .int .i64 (x : Int)].toArray].toArray (fun _ => True) (NewSl 64 2 2 (sl2 (splitV s v x))) := by
 refine givesX_of Tryz.func160 rfl (bs := [.agg [.int .u8 s.k, .int .i64 s.d, .int .i64 s.g, .int .u64 s.p, .int .u64 s.q, .int .u64 s.r].toArray, .agg [.int .i64 (v : Int), .int .i64 (x : Int)].toArray, undef, undef, undef, undef, undef, undef, undef, undef, undef, undef, undef, undef, undef, undef, undef, undef, undef, undef, undef, undef, undef, undef, undef, undef, undef, undef, undef, undef, undef, undef, undef, undef, undef, undef, undef, undef, undef, undef, undef, undef, undef, undef, undef, undef, undef, undef, undef, undef, undef, undef, undef, undef, undef, undef, undef, undef, undef, undef, undef, undef, undef, undef, undef, undef, undef, undef, undef, undef, undef, undef]) rfl ?_
 intro w hP hW
 obtain ⟨k1, k3, d0, d6, -⟩ := schB_iff.1 hs
 obtain ⟨hx1, hx2, hx3, hx4⟩ := sub_x d6 hsx
 obtain ⟨p1, p2', p3, p4⟩ := sub_parts hsx
 refine c_seq (c_reg ?_)
 refine xB hW ?_
 intro g1 W hW
 refine xB hW ?_
 intro g2 W hW
 refine bS ?_
 refine l_end (n_then (c_seq ?_))
 refine c_regY hW [] [.q, .q, .q, .q, .q, .q] [0, 1, 0, 4, 3, 31] (by kernel_rfl) (by kernel_rfl) ?_
 refine y_val (r_fieldAddr 0 Tryz.underlying64 rfl tyC3.size rfl rfl rfl) rfl rfl ?_
 refine y_loadC 0 tyC3 rfl rfl rfl rfl rfl rfl (by decide) ?_
 refine y_val (r_fieldAddr 1 Tryz.underlying64 rfl tyC3.size rfl rfl rfl) rfl rfl ?_
 refine y_loadC 0 tyC3 rfl rfl rfl rfl rfl rfl (by decide) ?_
 refine y_val (r_assign (v := .int _ _) rfl rfl) rfl rfl ?_
 refine y_val (r_assign (v := .int _ _) rfl rfl) rfl rfl ?_
 refine y_end ?_
 intro W hW
 refine n_then (c_seq (c_seq (c_reg ?_)))
 refine dA hW 1 tyA26 ?_
 refine dA hW 0 tyA64 ?_
 refine l_callX hW (g_rMembersOf s v x hs hsx) en158 trivial rfl rfl rfl rfl ?_
 rintro _ BsM W ⟨am, cm, rfl, hOM⟩ hW
 refine l_val (r_lenSlice Tryz.underlying27 rfl rfl) rfl rfl ?_
 refine l_val (r_eqlN (n := 1) rfl rfl rfl rfl) rfl rfl ?_
 refine l_split ?_ ?_
 ·intro hc1
  replace hc1 := of_decide_eq_true hc1
  omega
 ·intro hc1
  replace hc1 := of_decide_eq_false hc1
  refine l_end (n_then ?_)
  refine c_false rfl ?_
  refine c_skip (n_then (c_seq (c_seq (c_reg ?_))))
  refine l_val (r_fieldAddr 0 Tryz.underlying26 rfl tyC5.size rfl rfl rfl) rfl rfl ?_
  refine dC hW 1 tyC5 ?_
  refine l_val (r_eql rfl rfl rfl rfl) rfl rfl ?_
  refine l_split ?_ ?_
  ·intro hc2
   replace hc2 := of_decide_eq_true hc2
   refine l_end (n_then ?_)
   refine c_true rfl ?_
   refine c_seq (c_reg ?_)
   refine aI ?_
   refine l_val (r_mulN (m := 2) rfl rfl rfl (by omega)) rfl rfl ?_
   refine l_val (r_build (ps := [(0, .int _ _)]) (bld64_0 _) rfl rfl) rfl rfl ?_
   refine aI ?_
   refine l_val (r_mulN (m := 2) rfl rfl rfl (by omega)) rfl rfl ?_
   refine l_val (r_addN (n := 1) rfl rfl rfl (by omega)) rfl rfl ?_
   refine l_val (r_build (ps := [(0, .int _ _)]) (bld64_0 _) rfl rfl) rfl rfl ?_
   refine l_buildSliceF hW (bsl33_2_0_1 _ _ _ _) rfl rfl rfl rfl ?_
   intro gs W hW
   refine bS ?_
   refine l_end (n_then (c_ret (r_then ?_)))
   refine ret_tmp (v := .slice _ _ _) rfl rfl ?_
   have hsp := split_k1 (s := s) (v := v) (w := (x : Int)) (by omega)
   exact ⟨_, [_], rfl, ⟨_, _, rfl, by rw [hsp]; exact OwnSl.full rfl (by unfold maxLen; decide)⟩, hW.sub (.cons_cons _ (List.nil_sublist _))⟩
  ·intro hc2
   replace hc2 := of_decide_eq_false hc2
   refine l_end (n_then ?_)
   refine c_false rfl ?_
   refine c_skip (n_then (c_seq (c_seq (c_reg ?_))))
   refine aI ?_
   refine l_val (r_eqlN (n := 0) rfl rfl rfl rfl) rfl rfl ?_
   refine l_split ?_ ?_
   ·intro hc3
    replace hc3 := of_decide_eq_true hc3
    refine l_end (n_then ?_)
    refine c_true rfl ?_
    refine c_seq (c_reg ?_)
    refine l_val (r_build (ps := [(0, .int _ _), (1, .int _ _)]) (bld64_0_1 _ _) rfl rfl) rfl rfl ?_
    refine l_val (r_build (ps := [(0, .int _ _), (1, .int _ _)]) (bld64_0_1 _ _) rfl rfl) rfl rfl ?_
    refine l_buildSliceF hW (bsl33_2_0_1 _ _ _ _) rfl rfl rfl rfl ?_
    intro gs W hW
    refine bS ?_
    refine l_end (n_then (c_ret (r_then ?_)))
    refine ret_tmp (v := .slice _ _ _) rfl rfl ?_
    obtain rfl : x = 0 := by omega
    have hsp := (show splitV s v ((0 : Nat) : Int) = [(1, 2), (1, 3)] from split_w0 (s := s) (v := (v : Int)) (by omega))
    exact ⟨_, [_], rfl, ⟨_, _, rfl, by rw [hsp]; exact OwnSl.full rfl (by unfold maxLen; decide)⟩, hW.sub (.cons_cons _ (List.nil_sublist _))⟩
   ·intro hc3
    replace hc3 := of_decide_eq_false hc3
    obtain ⟨hwn, hne, hbe, -⟩ := p4 (by omega) (by omega)
    rw [Int.toNat_natCast, Int.toNat_natCast] at hbe
    have hlx := lev_le (v := x) (by omega)
    have hlv := (below_iff.1 hbe).1
    have hlt : lev v < lev x := Nat.lt_of_le_of_ne hlv fun e => by
     have h2 := (below_iff.1 hbe).2
     rw [e, Nat.sub_self] at h2
     exact hne (by rw [show x = v from h2])
    have hcl : sh x (lev x - lev v - 1) < 128 := Nat.lt_of_le_of_lt (sh_le _ _) (by omega)
    have hsl := (sib_all hcl).2.1
    refine l_end (n_then ?_)
    refine c_false rfl ?_
    refine c_skip (n_then (c_seq (c_reg ?_)))
    refine aI ?_
    refine aI ?_
    refine l_callX hW (g_rPath v x (by omega) hbe) en183 trivial rfl rfl rfl rfl ?_
    rintro _ _ W ⟨ap, cp, rfl, hO⟩ hW
    obtain ⟨gp, cur, rfl, rfl, -, -, htk⟩ := hO.row (by omega)
    replace hW := hW.perm List.perm_append_comm
    refine l_val (r_indexAddrSl1 (n := 1) Tryz.underlying27 tyC3.size rfl rfl rfl (by omega)) rfl rfl ?_
    refine l_loadC hW 0 tyC3 (v := .int .i64 ((sh x (lev x - lev v - 1) : Nat) : Int)) rfl rfl rfl rfl rfl (take_get htk (path_get (i := 1) (by omega))) ?_
    refine bI ?_
    refine l_end (n_then (c_seq (c_seq (c_reg ?_))))
    refine aI ?_
    refine aI ?_
    refine l_val (r_eqlN rfl rfl rfl rfl) rfl rfl ?_
    refine l_split ?_ ?_
    ·intro hc4
     replace hc4 := of_decide_eq_true hc4
     refine l_end (n_then ?_)
     refine c_true rfl ?_
     refine c_seq (c_reg ?_)
     refine aI ?_
     refine l_val (r_xorS rfl rfl rfl (Nat.lt_of_le_of_lt (sh_le _ _) (by omega))) rfl rfl ?_
     refine bI ?_
     refine l_end (n_then (c_seq (c_reg ?_)))
     refine aI ?_
     refine aI ?_
     refine l_val (r_mulN (m := 2) rfl rfl rfl (by omega)) rfl rfl ?_
     refine l_val (r_build (ps := [(0, .int _ _), (1, .int _ _)]) (bld64_0_1 _ _) rfl rfl) rfl rfl ?_
     refine aI ?_
     refine aI ?_
     refine l_val (r_mulN (m := 2) rfl rfl rfl (by omega)) rfl rfl ?_
     refine l_val (r_addN (n := 1) rfl rfl rfl (by omega)) rfl rfl ?_
     refine l_val (r_build (ps := [(0, .int _ _), (1, .int _ _)]) (bld64_0_1 _ _) rfl rfl) rfl rfl ?_
     refine l_buildSliceF hW (bsl33_2_0_1 _ _ _ _) rfl rfl rfl rfl ?_
     intro gs W hW
     refine bS ?_
     refine l_end (n_then (c_ret (r_then ?_)))
     refine ret_tmp (v := .slice _ _ _) rfl rfl ?_
     have hsp := split_s (s := s) (v := v) (x := x) (by omega) (by omega) (by omega)
     exact ⟨_, [_], rfl, ⟨_, _, rfl, by rw [hsp]; exact OwnSl.full rfl (by unfold maxLen; decide)⟩, hW.sub (.cons_cons _ (List.nil_sublist _))⟩
    ·intro hc4
     replace hc4 := of_decide_eq_false hc4
     refine l_end (n_then ?_)
     refine c_false rfl ?_
     refine c_skip (n_then (c_seq (c_seq (c_reg ?_))))
     refine dA hW 2 tyA26 ?_
     refine aI ?_
     refine aI ?_
     refine l_val (r_build (ps := [(0, .int _ _), (1, .int _ _)]) (bld64_0_1 _ _) rfl rfl) rfl rfl ?_
     refine l_call hW (g_rIsSubset _ _ _ hs) en154 rfl rfl rfl rfl ?_
     intro W hW
     refine l_split ?_ ?_
     ·intro hc5
      refine l_val (r_not rfl rfl) rfl rfl ?_
      refine l_end (n_then ?_)
      refine c_false rfl ?_
      refine c_skip (n_then (c_seq (c_reg ?_)))
      refine aI ?_
      refine aI ?_
      refine l_val (r_build (ps := [(0, .int _ _), (1, .int _ _)]) (bld64_0_1 _ _) rfl rfl) rfl rfl ?_
      refine aI ?_
      refine aI ?_
      refine l_val (r_build (ps := [(0, .int _ _), (1, .int _ _)]) (bld64_0_1 _ _) rfl rfl) rfl rfl ?_
      refine l_buildSliceF hW (bsl33_2_0_1 _ _ _ _) rfl rfl rfl rfl ?_
      intro gs W hW
      refine bS ?_
      refine l_end (n_then (c_ret ?_))
      refine ret_tmp (v := .slice _ _ _) rfl rfl ?_
      have hsp := split_c (s := s) (v := v) (x := x) (by omega) (by omega) (by omega) hc5
      exact ⟨_, [_], rfl, ⟨_, _, rfl, by rw [hsp]; exact OwnSl.full rfl (by unfold maxLen; decide)⟩, hW.sub (.cons_cons _ (List.nil_sublist _))⟩
     ·intro hc5
      refine l_val (r_not rfl rfl) rfl rfl ?_
      refine l_end (n_then ?_)
      refine c_true rfl ?_
      refine c_reg ?_
      refine l_val (r_fieldAddr 1 Tryz.underlying26 rfl tyC3.size rfl rfl rfl) rfl rfl ?_
      refine dC hW 2 tyC3 ?_
      refine aI ?_
      refine aI ?_
      refine l_call hW (g_rbetween s.d v x d6 (by omega) hbe) en179 rfl rfl rfl rfl ?_
      intro W hW
      refine bI ?_
      refine l_end (n_then (c_seq (c_reg ?_)))
      refine aI ?_
      refine aI ?_
      refine l_val (r_build (ps := [(0, .int _ _), (1, .int _ _)]) (bld64_0_1 _ _) rfl rfl) rfl rfl ?_
      refine aI ?_
      refine aI ?_
      refine l_val (r_build (ps := [(0, .int _ _), (1, .int _ _)]) (bld64_0_1 _ _) rfl rfl) rfl rfl ?_
      refine l_buildSliceF hW (bsl33_2_0_1 _ _ _ _) rfl rfl rfl rfl ?_
      intro gs W hW
      refine bS ?_
      refine l_end (n_then (c_ret ?_))
      refine ret_tmp (v := .slice _ _ _) rfl rfl ?_
      have hsp := split_b (s := s) (v := v) (x := x) (by omega) (by omega) (by omega) hc5
      exact ⟨_, [_], rfl, ⟨_, _, rfl, by rw [hsp]; exact OwnSl.full rfl (by unfold maxLen; decide)⟩, hW.sub (.cons_cons _ (List.nil_sublist _))⟩

/-- SplitOf, of whole numbers -/
theorem g_rSplitOf (s : Sc) (v x : Int) (hs : schB s = true) (hsx : subB s v x = true) (h1 : (membersN s v x (p2 s.d.toNat)).length ≠ 1) : GivesX Tryz.prog 160 [.agg [.int .u8 s.k, .int .i64 s.d, .int .i64 s.g, .int .u64 s.p, .int .u64 s.q, .int .u64 s.r].toArray, .agg [.int .i64 v, .int .i64 x].toArray].toArray (fun _ => True) (NewSl 64 2 2 (sl2 (splitV s v x))) := by
 obtain ⟨hx1, hx2, hx3, hx4⟩ := sub_x (schB_iff.1 hs).2.2.2.1 hsx
 obtain ⟨v', rfl⟩ : ∃ n : Nat, v = n := ⟨v.toNat, by omega⟩
 obtain ⟨x', rfl⟩ : ∃ n : Nat, x = n := ⟨x.toNat, by omega⟩
 exact g_rSplitOfN s v' x' hs hsx h1
end Go.Proofs.YtoegpalacppllaaGreat

/- Partitions, by the reference. -/
namespace Go.Proofs.YtoegpalacppllaaGreat
open Go.RowKit Pl
open Tr Hn
set_option maxRecDepth 10000 in
/-- headend/headendref08.CheckParts -/
theorem g_rCheckParts (s : Sc) (ba : Option Addr) (bn bc : Nat) (l : List (Int × Int)) (hl : l.length ≤ 100) : GivesR Tryz.prog 75 [.agg [.int .u8 s.k, .int .i64 s.d, .int .i64 s.g, .int .u64 s.p, .int .u64 s.q, .int .u64 s.r].toArray, .slice ba bn bc].toArray (fun w => RdB w ⟨ba, bn, bc⟩ l) (.int .i64 (partsE s l)) := by
 refine givesR_of Tryz.func75 rfl (bs := [.agg [.int .u8 s.k, .int .i64 s.d, .int .i64 s.g, .int .u64 s.p, .int .u64 s.q, .int .u64 s.r].toArray, .slice ba bn bc, undef, undef, undef, undef, undef, undef, undef, undef, undef, undef, undef, undef, undef, undef, undef, undef, undef, undef, undef, undef, undef, undef, undef, undef, undef, undef, undef, undef, undef, undef, undef, undef, undef, undef, undef, undef, undef, undef, undef, undef, undef, undef, undef]) rfl ?_
 intro w hP hW
 have hn : bn = l.length := hP.len
 refine c_seq (c_reg ?_)
 refine xB hW ?_
 intro g1 W hW
 refine bI ?_
 refine l_end (n_then (c_seq (c_seq (c_reg ?_))))
 refine dA hW 0 tyA26 ?_
 refine l_call hW (g_rCheck _) en116 rfl rfl rfl rfl ?_
 intro W hW
 refine bI ?_
 refine l_end (n_then (c_seq (c_reg ?_)))
 refine aI ?_
 refine l_val (r_neq rfl rfl rfl rfl) rfl rfl ?_
 refine l_split ?_ ?_
 ·intro hc1
  replace hc1 := of_decide_eq_true hc1
  have hs := chk_bad hc1
  refine l_end (n_then ?_)
  refine c_true rfl ?_
  refine c_seq (c_reg ?_)
  refine aI ?_
  refine bI ?_
  refine l_end (n_then (c_ret (r_then ?_)))
  refine ret_tmp (v := .int .i64 (partsE s l)) rfl ?_ ⟨rfl, hW.below⟩
  exact congrArg (Value.int .i64) (parts_s hc1).symm
 ·intro hc1
  replace hc1 := of_decide_eq_false hc1
  have hs := chk_zero hc1
  obtain ⟨k1, k3, d0, d6, -⟩ := schB_iff.1 hs
  have hp := p2_le (n := s.d.toNat) (by omega)
  refine l_end (n_then ?_)
  refine c_false rfl ?_
  refine c_skip (n_then (c_seq (c_seq (c_reg ?_))))
  refine dA hW 0 tyA26 ?_
  refine aS ?_
  refine l_callR hW (g_rsubsets s ba bn bc l hs hl) en118 (hP.past hW.below) rfl rfl rfl rfl ?_
  intro W hW
  refine bI ?_
  refine l_end (n_then (c_seq (c_reg ?_)))
  refine aI ?_
  refine l_val (r_neq rfl rfl rfl rfl) rfl rfl ?_
  refine l_split ?_ ?_
  ·intro hc2
   replace hc2 := of_decide_eq_true hc2
   refine l_end (n_then ?_)
   refine c_true rfl ?_
   refine c_seq (c_reg ?_)
   refine aI ?_
   refine bI ?_
   refine l_end (n_then (c_ret (r_then ?_)))
   refine ret_tmp (v := .int .i64 (partsE s l)) rfl ?_ ⟨rfl, hW.below⟩
   have hz : ¬ chk s ≠ 0 := hc1
   exact congrArg (Value.int .i64) (parts_l hz hc2).symm
  ·intro hc2
   replace hc2 := of_decide_eq_false hc2
   obtain ⟨hq2, hbb⟩ := subsE_ok hc2
   refine l_end (n_then ?_)
   refine c_false rfl ?_
   refine c_skip (n_then (c_seq (c_seq (c_reg ?_))))
   refine bI ?_
   refine l_end (n_then (c_block ?_))
   refine c_loop (fun (u : Nat) (j : Nat → Value) => [.agg [.int .u8 s.k, .int .i64 s.d, .int .i64 s.g, .int .u64 s.p, .int .u64 s.q, .int .u64 s.r].toArray, .slice ba bn bc, .pointer (some ⟨g1, 0, none⟩), j 3, j 4, .int .i64 (chk s), .int .i64 (subsE s l), .int .i64 (u : Int), j 8, j 9, .agg ([.int .u8 s.k, .int .i64 s.d, .int .i64 s.g, .int .u64 s.p, .int .u64 s.q, .int .u64 s.r]).toArray, .int .i64 (chk s), .int .i64 (chk s), .bool false, j 14, .agg ([.int .u8 s.k, .int .i64 s.d, .int .i64 s.g, .int .u64 s.p, .int .u64 s.q, .int .u64 s.r]).toArray, .slice ba bn bc, .int .i64 (subsE s l), .int .i64 (subsE s l), .bool false, j 20, j 21, j 22, j 23, j 24, j 25, j 26, j 27, j 28, j 29, j 30, j 31, j 32, j 33, j 34, j 35, j 36, j 37, j 38, j 39, j 40, j 41, j 42, j 43, j 44]) (fun (u : Nat) => [⟨g1, [.int .u8 s.k, .int .i64 s.d, .int .i64 s.g, .int .u64 s.p, .int .u64 s.q, .int .u64 s.r], 26⟩]) (fun (u : Nat) => u ≤ p2 s.d.toNat ∧ ∀ k, k < u → ¬ 1 < cntR s l k l.length) (fun (u : Nat) => p2 s.d.toNat - u) 0 (by kernel_rfl) hW ⟨by omega, all_zero⟩ ?_
   intro u j W hx hW
   obtain ⟨hu0, hub⟩ := hx
   refine c_seq (c_seq (c_reg ?_))
   refine aI ?_
   refine l_val (r_fieldAddr 1 Tryz.underlying26 rfl tyC3.size rfl rfl rfl) rfl rfl ?_
   refine dC hW 0 tyC3 ?_
   refine l_call hW (g_Receivers _ (by omega) (by omega)) en119 rfl rfl rfl rfl ?_
   intro W hW
   refine l_val (r_lssN rfl rfl rfl rfl) rfl rfl ?_
   refine l_split ?_ ?_
   ·intro hc3
    replace hc3 := of_decide_eq_true hc3
    refine l_end (n_then ?_)
    refine c_true rfl ?_
    refine c_skip (n_then (c_seq (c_block (c_seq (c_reg ?_)))))
    refine bI ?_
    refine l_end (n_then (c_seq (c_seq (c_reg ?_))))
    refine bI ?_
    refine l_end (n_then (c_block ?_))
    refine c_loop (fun (y : Nat × Nat) (j : Nat → Value) => [.agg [.int .u8 s.k, .int .i64 s.d, .int .i64 s.g, .int .u64 s.p, .int .u64 s.q, .int .u64 s.r].toArray, .slice ba bn bc, .pointer (some ⟨g1, 0, none⟩), j 3, j 4, .int .i64 (chk s), .int .i64 (subsE s l), .int .i64 (u : Int), .int .i64 (y.2 : Int), .int .i64 (y.1 : Int), .agg ([.int .u8 s.k, .int .i64 s.d, .int .i64 s.g, .int .u64 s.p, .int .u64 s.q, .int .u64 s.r]).toArray, .int .i64 (chk s), .int .i64 (chk s), .bool false, j 14, .agg ([.int .u8 s.k, .int .i64 s.d, .int .i64 s.g, .int .u64 s.p, .int .u64 s.q, .int .u64 s.r]).toArray, .slice ba bn bc, .int .i64 (subsE s l), .int .i64 (subsE s l), .bool false, j 20, .int .i64 (u : Int), .pointer (some ⟨g1, 1, none⟩), .int .i64 s.d, .int .i64 ((p2 s.d.toNat : Nat) : Int), .bool true, j 26, j 27, j 28, j 29, j 30, j 31, j 32, j 33, j 34, j 35, j 36, j 37, j 38, j 39, j 40, j 41, j 42, j 43, j 44]) (fun (y : Nat × Nat) => [⟨g1, [.int .u8 s.k, .int .i64 s.d, .int .i64 s.g, .int .u64 s.p, .int .u64 s.q, .int .u64 s.r], 26⟩]) (fun (y : Nat × Nat) => y.1 ≤ bn ∧ y.2 = cntR s l u y.1) (fun (y : Nat × Nat) => bn - y.1) (0, 0) (by kernel_rfl) hW ⟨Nat.zero_le _, rfl⟩ ?_
    intro y j W hx hW
    obtain ⟨hy0, hy⟩ := hx
    have hyl := cntR_le s l u y.1
    refine c_seq (c_seq (c_reg ?_))
    refine aI ?_
    refine aS ?_
    refine l_val (r_lenSlice Tryz.underlying33 rfl rfl) rfl rfl ?_
    refine l_val (r_lssN rfl rfl rfl rfl) rfl rfl ?_
    refine l_split ?_ ?_
    ·intro hc4
     replace hc4 := of_decide_eq_true hc4
     obtain ⟨b0, o0, ha, hc⟩ := hP.ptr (by omega)
     simp only at ha
     subst ha
     refine l_end (n_then ?_)
     refine c_true rfl ?_
     refine c_skip (n_then (c_seq (c_block (c_seq ?_))))
     refine c_regY hW [] [.q, .q, .q, .q, .q, .q, .q] [0, 0, 0, 6, 14, 0, 63] (by kernel_rfl) (by kernel_rfl) ?_
     refine y_loadA 0 tyA26 rfl rfl rfl rfl rfl (by first | rfl | exact kc_len _ | exact kcf_len _ | exact boC_len _ _ | (simp; done)) (by decide) ?_
     refine yS ?_
     refine yI ?_
     refine y_val (r_indexAddrSlB (n := y.1) Tryz.underlying33 tyA64.size rfl rfl rfl (by omega)) rfl rfl ?_
     refine y_loadF2 tyA64 (hc y.1 (by omega)).1 (hc y.1 (by omega)).2 (by kernel_rfl) rfl rfl rfl ?_
     refine yI ?_
     refine y_call (g_rHas s (qn l y.1) (qm l y.1) u hs (hbb y.1 (by omega)) (by omega)) en120 rfl rfl rfl rfl ?_
     refine y_split ?_ ?_
     ·intro hc5
      refine y_end ?_
      intro W hW
      refine n_then ?_
      refine c_true rfl ?_
      refine c_reg ?_
      refine aI ?_
      refine l_val (r_addN (n := 1) rfl rfl rfl (by omega)) rfl rfl ?_
      refine bI ?_
      refine l_end (n_block (n_then (c_reg ?_)))
      refine aI ?_
      refine l_val (r_addN (n := 1) rfl rfl rfl (by omega)) rfl rfl ?_
      refine bI ?_
      refine l_end (n_then ?_)
      exact loop_next (y.1 + 1, y.2 + 1) (by kernel_rfl) hW ⟨by simp only; omega, by simp only; rw [cntR_yes hc5]; omega⟩ (by simp only; omega)
     ·intro hc5
      refine y_end ?_
      intro W hW
      refine n_then ?_
      refine c_false rfl ?_
      refine c_skip (n_block (n_then (c_reg ?_)))
      refine aI ?_
      refine l_val (r_addN (n := 1) rfl rfl rfl (by omega)) rfl rfl ?_
      refine bI ?_
      refine l_end (n_then ?_)
      exact loop_next (y.1 + 1, y.2) (by kernel_rfl) hW ⟨by simp only; omega, by simp only; rw [cntR_no hc5]; omega⟩ (by simp only; omega)
    ·intro hc4
     replace hc4 := of_decide_eq_false hc4
     refine l_end (n_then ?_)
     refine c_false rfl ?_
     refine c_exit (x_then (x_then ?_))
     refine x_hit ?_
     refine n_then (c_seq (c_reg ?_))
     refine aI ?_
     refine l_val (r_gtrN (n := 1) rfl rfl rfl rfl) rfl rfl ?_
     refine l_split ?_ ?_
     ·intro hc6
      replace hc6 := of_decide_eq_true hc6
      refine l_end (n_then ?_)
      refine c_true rfl ?_
      refine c_seq (c_reg ?_)
      refine bI ?_
      refine l_end (n_then (c_ret (r_block (r_then (r_then (r_block (r_then ?_)))))))
      refine ret_tmp (v := .int .i64 (partsE s l)) rfl ?_ ⟨rfl, hW.below⟩
      have hz : ¬ chk s ≠ 0 := hc1
      have e2 : y.1 = l.length := by omega
      rw [e2] at hy
      exact congrArg (Value.int .i64) (parts_n hz hc2 (parts_two (u := u) (by omega) (by omega))).symm
     ·intro hc6
      replace hc6 := of_decide_eq_false hc6
      have hnot : ¬ 1 < cntR s l u l.length := by
       have e2 : y.1 = l.length := by omega
       rw [e2] at hy
       omega
      refine l_end (n_then ?_)
      refine c_false rfl ?_
      refine c_skip (n_block (n_then (c_reg ?_)))
      refine aI ?_
      refine l_val (r_addN (n := 1) rfl rfl rfl (by omega)) rfl rfl ?_
      refine bI ?_
      refine l_end (n_then ?_)
      exact loop_next (u + 1) (by kernel_rfl) hW ⟨by omega, all_upto hub hnot⟩ (by omega)
   ·intro hc3
    replace hc3 := of_decide_eq_false hc3
    refine l_end (n_then ?_)
    refine c_false rfl ?_
    refine c_exit (x_then (x_then ?_))
    refine x_hit ?_
    refine n_then (c_seq (c_reg ?_))
    refine bI ?_
    refine l_end (n_then (c_ret ?_))
    refine ret_tmp (v := .int .i64 (partsE s l)) rfl ?_ ⟨rfl, hW.below⟩
    have hz : ¬ chk s ≠ 0 := hc1
    exact congrArg (Value.int .i64) (parts_y hz hc2 (parts_one fun k hk => hub k (by omega))).symm

end Go.Proofs.YtoegpalacppllaaGreat

/- Labels, by the reference. -/
namespace Go.Proofs.YtoegpalacppllaaGreat
open Go.RowKit Pl
open Tr Hn
set_option maxRecDepth 10000 in
/-- headend/headendref03.leads -/
theorem g_rleads (s : Sc) (node minus v x : Int) (hs : schB s = true) (hx : subB s v x = true) (hm : minus < 128) : Gives Tryz.prog 192 [.agg [.int .u8 s.k, .int .i64 s.d, .int .i64 s.g, .int .u64 s.p, .int .u64 s.q, .int .u64 s.r].toArray, .int .i64 node, .int .i64 minus, .agg [.int .i64 v, .int .i64 x].toArray].toArray (.bool (leadB s node minus v x)) := by
 refine gives_of Tryz.func192 rfl (bs := [.agg [.int .u8 s.k, .int .i64 s.d, .int .i64 s.g, .int .u64 s.p, .int .u64 s.q, .int .u64 s.r].toArray, .int .i64 node, .int .i64 minus, .agg [.int .i64 v, .int .i64 x].toArray, undef, undef, undef, undef, undef, undef, undef, undef, undef, undef, undef, undef, undef, undef, undef, undef, undef, undef, undef, undef, undef, undef, undef, undef, undef, undef, undef, undef, undef, undef, undef, undef, undef, undef, undef, undef, undef, undef, undef, undef, undef, undef]) rfl ?_
 intro w hW
 obtain ⟨k1, k3, d0, d6, -⟩ := schB_iff.1 hs
 have hv2 := node_lt (sub_parts hx).1 d6
 refine c_seq (c_reg ?_)
 refine xB hW ?_
 intro g1 W hW
 refine xB hW ?_
 intro g2 W hW
 refine bB ?_
 refine l_end (n_then (c_seq (c_seq (c_reg ?_))))
 refine l_val (r_fieldAddr 0 Tryz.underlying26 rfl tyC5.size rfl rfl rfl) rfl rfl ?_
 refine dC hW 1 tyC5 ?_
 refine l_val (r_eql rfl rfl rfl rfl) rfl rfl ?_
 refine l_split ?_ ?_
 ·intro hc1
  replace hc1 := of_decide_eq_true hc1
  refine aB ?_
  refine lN ?_
  refine lN ?_
  refine lN ?_
  refine kB ?_
  refine l_end (n_then ?_)
  refine c_true rfl ?_
  refine c_seq (c_reg ?_)
  refine aI ?_
  refine l_val (r_fieldAddr 0 Tryz.underlying64 rfl tyC3.size rfl rfl rfl) rfl rfl ?_
  refine dC hW 0 tyC3 ?_
  refine l_val (r_eql rfl rfl rfl rfl) rfl rfl ?_
  refine l_split ?_ ?_
  ·intro hc2
   replace hc2 := of_decide_eq_true hc2
   refine aB ?_
   refine gI ?_
   refine l_valG (r_fieldAddr 1 Tryz.underlying64 rfl tyC3.size rfl rfl rfl) (by kernel_rfl) rfl ?_
   refine dG hW 0 tyC3 ?_
   refine l_valG (r_eql rfl rfl rfl rfl) (by kernel_rfl) rfl ?_
   refine kB ?_
   refine bB ?_
   refine l_end (n_then (c_ret (r_then ?_)))
   refine ret_tmp (v := .bool (leadB s node minus v x)) rfl ?_ ⟨rfl, hW.below⟩
   exact congrArg Value.bool (by rw [leadB, if_pos (.inl (by omega))]; exact decide_eq_decide.2 (by omega))
  ·intro hc2
   replace hc2 := of_decide_eq_false hc2
   refine aB ?_
   refine lN ?_
   refine lN ?_
   refine lN ?_
   refine lN ?_
   refine kB ?_
   refine bB ?_
   refine l_end (n_then (c_ret (r_then ?_)))
   refine ret_tmp (v := .bool (leadB s node minus v x)) rfl ?_ ⟨rfl, hW.below⟩
   exact congrArg Value.bool (by rw [leadB, if_pos (.inl (by omega)), decide_eq_false (by omega)])
 ·intro hc1
  replace hc1 := of_decide_eq_false hc1
  refine aB ?_
  refine l_valG (r_fieldAddr 1 Tryz.underlying64 rfl tyC3.size rfl rfl rfl) (by kernel_rfl) rfl ?_
  refine dG hW 0 tyC3 ?_
  refine l_valG (r_eql rfl rfl rfl rfl) (by kernel_rfl) rfl ?_
  refine l_split ?_ ?_
  ·intro hc3
   replace hc3 := of_decide_eq_true hc3
   refine kB ?_
   refine l_end (n_then ?_)
   refine c_true rfl ?_
   refine c_seq (c_reg ?_)
   refine aI ?_
   refine l_val (r_fieldAddr 0 Tryz.underlying64 rfl tyC3.size rfl rfl rfl) rfl rfl ?_
   refine dC hW 0 tyC3 ?_
   refine l_val (r_eql rfl rfl rfl rfl) rfl rfl ?_
   refine l_split ?_ ?_
   ·intro hc4
    replace hc4 := of_decide_eq_true hc4
    refine aB ?_
    refine gI ?_
    refine l_valG (r_fieldAddr 1 Tryz.underlying64 rfl tyC3.size rfl rfl rfl) (by kernel_rfl) rfl ?_
    refine dG hW 0 tyC3 ?_
    refine l_valG (r_eql rfl rfl rfl rfl) (by kernel_rfl) rfl ?_
    refine kB ?_
    refine bB ?_
    refine l_end (n_then (c_ret (r_then ?_)))
    refine ret_tmp (v := .bool (leadB s node minus v x)) rfl ?_ ⟨rfl, hW.below⟩
    exact congrArg Value.bool (by rw [leadB, if_pos (.inr (by omega))]; exact decide_eq_decide.2 (by omega))
   ·intro hc4
    replace hc4 := of_decide_eq_false hc4
    refine aB ?_
    refine lN ?_
    refine lN ?_
    refine lN ?_
    refine lN ?_
    refine kB ?_
    refine bB ?_
    refine l_end (n_then (c_ret (r_then ?_)))
    refine ret_tmp (v := .bool (leadB s node minus v x)) rfl ?_ ⟨rfl, hW.below⟩
    exact congrArg Value.bool (by rw [leadB, if_pos (.inr (by omega)), decide_eq_false (by omega)])
  ·intro hc3
   replace hc3 := of_decide_eq_false hc3
   have hw2 := node_lt ((sub_parts hx).2.2.2 (by omega) (by omega)).1 d6
   refine kB ?_
   refine l_end (n_then ?_)
   refine c_false rfl ?_
   refine c_skip (n_then (c_seq (c_reg ?_)))
   refine aI ?_
   refine l_val (r_fieldAddr 0 Tryz.underlying64 rfl tyC3.size rfl rfl rfl) rfl rfl ?_
   refine dC hW 0 tyC3 ?_
   refine l_val (r_eql rfl rfl rfl rfl) rfl rfl ?_
   refine l_split ?_ ?_
   ·intro hc5
    replace hc5 := of_decide_eq_true hc5
    refine aB ?_
    refine gI ?_
    refine l_valG (r_geq rfl rfl rfl rfl) (by kernel_rfl) rfl ?_
    refine l_split ?_ ?_
    ·intro hc6
     replace hc6 := of_decide_eq_true hc6
     refine kB ?_
     refine aB ?_
     refine gI ?_
     refine gI ?_
     refine l_callG hW (g_rBelowZ minus node (by omega) (by omega) (by omega) (by omega)) en155 (by kernel_rfl) rfl rfl rfl ?_
     intro W hW
     refine l_split ?_ ?_
     ·intro hc7
      refine kB ?_
      refine aB ?_
      refine l_valG (r_fieldAddr 1 Tryz.underlying64 rfl tyC3.size rfl rfl rfl) (by kernel_rfl) rfl ?_
      refine dG hW 0 tyC3 ?_
      refine gI ?_
      refine l_callG hW (g_rBelowZ x minus (by omega) (by omega) (by omega) (by omega)) en155 (by kernel_rfl) rfl rfl rfl ?_
      intro W hW
      refine kB ?_
      refine bB ?_
      refine l_end (n_then (c_ret ?_))
      refine ret_tmp (v := .bool (leadB s node minus v x)) rfl ?_ ⟨rfl, hW.below⟩
      exact congrArg Value.bool (by rw [leadB, if_neg (by omega), decide_eq_true (by omega), hc7]; rfl)
     ·intro hc7
      refine kB ?_
      refine aB ?_
      refine lN ?_
      refine lN ?_
      refine lN ?_
      refine lN ?_
      refine kB ?_
      refine bB ?_
      refine l_end (n_then (c_ret ?_))
      refine ret_tmp (v := .bool (leadB s node minus v x)) rfl ?_ ⟨rfl, hW.below⟩
      exact congrArg Value.bool (by rw [leadB, if_neg (by omega), hc7, Bool.and_false]; rfl)
    ·intro hc6
     replace hc6 := of_decide_eq_false hc6
     refine kB ?_
     refine aB ?_
     refine lN ?_
     refine lN ?_
     refine lN ?_
     refine kB ?_
     refine aB ?_
     refine lN ?_
     refine lN ?_
     refine lN ?_
     refine lN ?_
     refine kB ?_
     refine bB ?_
     refine l_end (n_then (c_ret ?_))
     refine ret_tmp (v := .bool (leadB s node minus v x)) rfl ?_ ⟨rfl, hW.below⟩
     exact congrArg Value.bool (by rw [leadB, if_neg (by omega), decide_eq_false (by omega)]; rfl)
   ·intro hc5
    replace hc5 := of_decide_eq_false hc5
    refine aB ?_
    refine lN ?_
    refine lN ?_
    refine kB ?_
    refine aB ?_
    refine lN ?_
    refine lN ?_
    refine lN ?_
    refine kB ?_
    refine aB ?_
    refine lN ?_
    refine lN ?_
    refine lN ?_
    refine lN ?_
    refine kB ?_
    refine bB ?_
    refine l_end (n_then (c_ret ?_))
    refine ret_tmp (v := .bool (leadB s node minus v x)) rfl ?_ ⟨rfl, hW.below⟩
    exact congrArg Value.bool (by rw [leadB, if_neg (by omega), decide_eq_false (by omega)]; rfl)

set_option maxRecDepth 10000 in
/-- headend/headendref03.LabelsOf -/
theorem g_rLabelsOf (s : Sc) (u : Nat) (hs : schB s = true) (hu : u < p2 s.d.toNat) : GivesX Tryz.prog 191 [.agg [.int .u8 s.k, .int .i64 s.d, .int .i64 s.g, .int .u64 s.p, .int .u64 s.q, .int .u64 s.r].toArray, .int .i64 (u : Int)].toArray (fun _ => True) (NewSl 64 2 (labN s u).length (sl2 (labN s u))) := by
 refine givesX_of Tryz.func191 rfl (bs := [.agg [.int .u8 s.k, .int .i64 s.d, .int .i64 s.g, .int .u64 s.p, .int .u64 s.q, .int .u64 s.r].toArray, .int .i64 (u : Int), undef, undef, undef, undef, undef, undef, undef, undef, undef, undef, undef, undef, undef, undef, undef, undef, undef, undef, undef, undef, undef, undef, undef, undef, undef, undef, undef, undef, undef, undef, undef, undef, undef, undef, undef, undef, undef, undef, undef, undef, undef, undef, undef, undef, undef, undef, undef, undef, undef, undef, undef, undef, undef, undef, undef, undef, undef, undef, undef, undef, undef, undef, undef, undef, undef, undef, undef, undef, undef]) rfl ?_
 intro w hP hW
 obtain ⟨k1, k3, d0, d6, -⟩ := schB_iff.1 hs
 have hp := p2_le (n := s.d.toNat) (by omega)
 have hly := leaf_lev hu
 have hl1 : lev 1 = 0 := lev_one (Nat.le_refl _)
 have hkx : (lev (p2 s.d.toNat + u) - lev 1) = s.d.toNat := by rw [hly, hl1]; rfl
 refine c_seq (c_reg ?_)
 refine xB hW ?_
 intro g1 W hW
 refine bS ?_
 refine l_end (n_then (c_seq (c_reg ?_)))
 refine bS ?_
 refine l_end (n_then (c_seq (c_reg ?_)))
 refine l_val (r_fieldAddr 1 Tryz.underlying26 rfl tyC3.size rfl rfl rfl) rfl rfl ?_
 refine dC hW 0 tyC3 ?_
 refine l_call hW (g_Receivers _ (by omega) (by omega)) en119 rfl rfl rfl rfl ?_
 intro W hW
 refine aI ?_
 refine l_val (r_addN rfl rfl rfl (by omega)) rfl rfl ?_
 refine l_callX hW (g_rPath 1 (p2 s.d.toNat + u) (by omega) (below_top (by have := p2_pos s.d.toNat; omega) (by omega))) en183 trivial rfl rfl rfl rfl ?_
 rintro _ _ W ⟨ap, cp, rfl, hO⟩ hW
 obtain ⟨gp, cur, rfl, rfl, -, -, htk⟩ := hO.row (by omega)
 have hnode : ∀ i, i < s.d.toNat + 1 → cur[i]? = some (.int .i64 ((pn s.d.toNat (p2 s.d.toNat + u) i : Nat) : Int)) := fun i hi => by
  rw [take_get htk (path_get (by omega)), hkx]; rfl
 refine bS ?_
 refine l_end (n_then (c_seq (c_seq (c_reg ?_))))
 refine l_val (r_fieldAddr 0 Tryz.underlying26 rfl tyC5.size rfl rfl rfl) rfl rfl ?_
 refine dC hW 0 tyC5 ?_
 refine l_val (r_eql rfl rfl rfl rfl) rfl rfl ?_
 refine l_split ?_ ?_
 ·intro hc1
  replace hc1 := of_decide_eq_true hc1
  refine l_end (n_then ?_)
  refine c_true rfl ?_
  refine c_seq (c_seq (c_reg ?_))
  refine bI ?_
  refine l_end (n_then (c_block ?_))
  refine c_loop (fun (x : Nat × Option Addr × Nat × List Blk) (j : Nat → Value) => [.agg [.int .u8 s.k, .int .i64 s.d, .int .i64 s.g, .int .u64 s.p, .int .u64 s.q, .int .u64 s.r].toArray, .int .i64 (u : Int), .pointer (some ⟨g1, 0, none⟩), j 3, j 4, .slice x.2.1 (lab1 s.d.toNat (p2 s.d.toNat + u) x.1).length x.2.2.1, .slice (some ⟨gp, 0, none⟩) ((lev (p2 s.d.toNat + u) - lev 1) + 1) cp, .int .i64 (x.1 : Int), j 8, j 9, j 10, .pointer (some ⟨g1, 1, none⟩), .int .i64 s.d, .int .i64 ((p2 s.d.toNat : Nat) : Int), .int .i64 (u : Int), .int .i64 (((p2 s.d.toNat) + u : Nat) : Int), .slice (some ⟨gp, 0, none⟩) ((lev (p2 s.d.toNat + u) - lev 1) + 1) cp, .pointer (some ⟨g1, 0, none⟩), .int .u8 s.k, .bool true, j 20, j 21, j 22, j 23, j 24, j 25, j 26, j 27, j 28, j 29, j 30, j 31, j 32, j 33, j 34, j 35, j 36, j 37, j 38, j 39, j 40, j 41, j 42, j 43, j 44, j 45, j 46, j 47, j 48, j 49, j 50, j 51, j 52, j 53, j 54, j 55, j 56, j 57, j 58, j 59, j 60, j 61, j 62, j 63, j 64, j 65, j 66, j 67, j 68, j 69, j 70]) (fun (x : Nat × Option Addr × Nat × List Blk) => [⟨g1, [.int .u8 s.k, .int .i64 s.d, .int .i64 s.g, .int .u64 s.p, .int .u64 s.q, .int .u64 s.r], 26⟩, ⟨gp, cur, 3⟩] ++ x.2.2.2) (fun (x : Nat × Option Addr × Nat × List Blk) => x.1 ≤ s.d.toNat + 1 ∧ OwnSl 64 2 x.2.1 (lab1 s.d.toNat (p2 s.d.toNat + u) x.1).length x.2.2.1 (sl2 (lab1 s.d.toNat (p2 s.d.toNat + u) x.1)) x.2.2.2) (fun (x : Nat × Option Addr × Nat × List Blk) => s.d.toNat + 1 - x.1) (0, none, 0, []) (by kernel_rfl) (by simpa using hW) ⟨Nat.zero_le _, OwnSl.nil 64 2⟩ ?_
  intro x j W hx hW
  obtain ⟨hx, hO⟩ := hx
  refine c_seq (c_seq (c_reg ?_))
  refine aI ?_
  refine aS ?_
  refine l_val (r_lenSlice Tryz.underlying27 rfl rfl) rfl rfl ?_
  refine l_val (r_lssN rfl rfl rfl rfl) rfl rfl ?_
  refine l_split ?_ ?_
  ·intro hc2
   replace hc2 := of_decide_eq_true hc2
   refine l_end (n_then ?_)
   refine c_true rfl ?_
   refine c_skip (n_then (c_seq (c_block (c_reg ?_))))
   have hlab : lab1 s.d.toNat (p2 s.d.toNat + u) (x.1 + 1) = lab1 s.d.toNat (p2 s.d.toNat + u) x.1 ++ [(((pn s.d.toNat (p2 s.d.toNat + u) x.1 : Nat) : Int), 0)] := rfl
   have hll := lab1_len s.d.toNat (p2 s.d.toNat + u) x.1
   refine aS ?_
   refine aS ?_
   refine aI ?_
   refine l_val (r_indexAddrSl1 (n := x.1) Tryz.underlying27 tyC3.size rfl rfl rfl (by omega)) rfl rfl ?_
   refine l_loadC hW 1 tyC3 (v := .int .i64 ((pn s.d.toNat (p2 s.d.toNat + u) x.1 : Nat) : Int)) rfl rfl rfl rfl rfl (hnode x.1 (by omega)) ?_
   refine l_val (r_build (ps := [(0, .int _ _)]) (bld64_0 _) rfl rfl) rfl rfl ?_
   refine l_buildSliceF hW (bsl33_1_0 _ _) rfl rfl rfl rfl ?_
   intro gb W hW
   refine l_appendB tyE33 (L := [_, _, _]) hO hW 0 (N := (lab1 s.d.toNat (p2 s.d.toNat + u) (x.1 + 1)).length) (by rw [hlab]; simp only [List.length_append, List.length_cons, List.length_nil] <;> omega) rfl rfl rfl rfl rfl rfl rfl (by simp [Value.oneCell']) (by rw [hlab]; simp only [List.length_append, List.length_cons, List.length_nil]; unfold maxLen; omega) (by rw [hlab]; simp only [List.length_append, List.length_cons, List.length_nil]; omega) ?_
   intro a1 c1 Bs1 W hO1 hW
   replace hO1 := hO1.castx rfl (xs' := sl2 (lab1 s.d.toNat (p2 s.d.toNat + u) (x.1 + 1))) (by rw [hlab, sl2_append (lab1 s.d.toNat (p2 s.d.toNat + u) x.1) [_]]; rfl)
   refine bS ?_
   refine l_end (n_block (n_then (c_reg ?_)))
   refine aI ?_
   refine l_val (r_addN (n := 1) rfl rfl rfl (by omega)) rfl rfl ?_
   refine bI ?_
   refine l_end (n_then ?_)
   exact loop_next (x.1 + 1, a1, c1, Bs1) (by kernel_rfl) (hW.drop 1) ⟨by simp only; omega, hO1⟩ (by simp only; omega)
  ·intro hc2
   replace hc2 := of_decide_eq_false hc2
   refine l_end (n_then ?_)
   refine c_false rfl ?_
   refine c_exit (x_then (x_then ?_))
   refine x_hit ?_
   refine n_then (c_seq (c_reg ?_))
   refine aS ?_
   refine bS ?_
   refine l_end (n_then (c_ret (r_then ?_)))
   refine ret_tmp (v := .slice _ _ _) rfl rfl ?_
   have e : x.1 = s.d.toNat + 1 := by omega
   rw [show labN s u = lab1 s.d.toNat (p2 s.d.toNat + u) x.1 by rw [labN, if_pos (by omega), e]]
   exact ⟨_, _, rfl, ⟨_, _, rfl, hO⟩, hW.sub (List.sublist_append_right _ _)⟩
 ·intro hc1
  replace hc1 := of_decide_eq_false hc1
  refine l_end (n_then ?_)
  refine c_false rfl ?_
  refine c_skip (n_then (c_seq (c_reg ?_)))
  refine aS ?_
  refine l_val (r_build (ps := [(0, .int _ _)]) (bld64_0 _) rfl rfl) rfl rfl ?_
  refine l_buildSliceF hW (bsl33_1_0 _ _) rfl rfl rfl rfl ?_
  intro gb W hW
  refine l_appendB tyE33 (L := [_, _, _]) (OwnSl.nil 64 2) (by simpa using hW) 0 (N := 1) rfl rfl rfl rfl rfl rfl rfl rfl (by simp [Value.oneCell']) (by decide) (by decide) ?_
  intro a0 c0 Bs0 W hO0 hW
  refine bS ?_
  refine l_end ?_
  replace hW := hW.drop 1
  refine n_then (c_seq (c_seq (c_reg ?_)))
  refine bI ?_
  refine l_end (n_then (c_block ?_))
  refine c_loop (fun (x : Nat × Option Addr × Nat × List Blk × Nat) (j : Nat → Value) => [.agg [.int .u8 s.k, .int .i64 s.d, .int .i64 s.g, .int .u64 s.p, .int .u64 s.q, .int .u64 s.r].toArray, .int .i64 (u : Int), .pointer (some ⟨g1, 0, none⟩), j 3, j 4, .slice x.2.1 x.2.2.2.2 x.2.2.1, .slice (some ⟨gp, 0, none⟩) ((lev (p2 s.d.toNat + u) - lev 1) + 1) cp, j 7, .int .i64 (x.1 : Int), j 9, j 10, .pointer (some ⟨g1, 1, none⟩), .int .i64 s.d, .int .i64 ((p2 s.d.toNat : Nat) : Int), .int .i64 (u : Int), .int .i64 (((p2 s.d.toNat) + u : Nat) : Int), .slice (some ⟨gp, 0, none⟩) ((lev (p2 s.d.toNat + u) - lev 1) + 1) cp, .pointer (some ⟨g1, 0, none⟩), .int .u8 s.k, .bool false, j 20, j 21, j 22, j 23, j 24, j 25, j 26, j 27, j 28, j 29, j 30, j 31, j 32, j 33, j 34, j 35, .agg ([.int .i64 1, .int .i64 0]).toArray, j 37, .slice a0 1 c0, j 39, j 40, j 41, j 42, j 43, j 44, j 45, j 46, j 47, j 48, j 49, j 50, j 51, j 52, j 53, j 54, j 55, j 56, j 57, j 58, j 59, j 60, j 61, j 62, j 63, j 64, j 65, j 66, j 67, j 68, j 69, j 70]) (fun (x : Nat × Option Addr × Nat × List Blk × Nat) => [⟨g1, [.int .u8 s.k, .int .i64 s.d, .int .i64 s.g, .int .u64 s.p, .int .u64 s.q, .int .u64 s.r], 26⟩, ⟨gp, cur, 3⟩] ++ x.2.2.2.1) (fun (x : Nat × Option Addr × Nat × List Blk × Nat) => x.1 ≤ s.d.toNat + 1 ∧ x.2.2.2.2 = (labs s (p2 s.d.toNat + u) x.1).length ∧ OwnSl 64 2 x.2.1 x.2.2.2.2 x.2.2.1 (sl2 (labs s (p2 s.d.toNat + u) x.1)) x.2.2.2.1) (fun (x : Nat × Option Addr × Nat × List Blk × Nat) => s.d.toNat + 1 - x.1) (0, a0, c0, Bs0, 1) (by kernel_rfl) hW ⟨Nat.zero_le _, rfl, hO0⟩ ?_
  intro x j W hx hW
  obtain ⟨hx, hxn, hO⟩ := hx
  refine c_seq (c_seq (c_reg ?_))
  refine aI ?_
  refine aS ?_
  refine l_val (r_lenSlice Tryz.underlying27 rfl rfl) rfl rfl ?_
  refine l_val (r_lssN rfl rfl rfl rfl) rfl rfl ?_
  refine l_split ?_ ?_
  ·intro hc3
   replace hc3 := of_decide_eq_true hc3
   refine l_end (n_then ?_)
   refine c_true rfl ?_
   refine c_skip (n_then (c_seq (c_block (c_seq (c_reg ?_)))))
   refine aI ?_
   refine l_val (r_addN (n := 1) rfl rfl rfl (by omega)) rfl rfl ?_
   refine bI ?_
   refine l_end (n_then (c_block ?_))
   refine c_loop (fun (q : Nat × Option Addr × Nat × List Blk × Nat) (j : Nat → Value) => [.agg [.int .u8 s.k, .int .i64 s.d, .int .i64 s.g, .int .u64 s.p, .int .u64 s.q, .int .u64 s.r].toArray, .int .i64 (u : Int), .pointer (some ⟨g1, 0, none⟩), j 3, j 4, .slice q.2.1 q.2.2.2.2 q.2.2.1, .slice (some ⟨gp, 0, none⟩) ((lev (p2 s.d.toNat + u) - lev 1) + 1) cp, j 7, .int .i64 (x.1 : Int), .int .i64 (q.1 : Int), j 10, .pointer (some ⟨g1, 1, none⟩), .int .i64 s.d, .int .i64 ((p2 s.d.toNat : Nat) : Int), .int .i64 (u : Int), .int .i64 (((p2 s.d.toNat) + u : Nat) : Int), .slice (some ⟨gp, 0, none⟩) ((lev (p2 s.d.toNat + u) - lev 1) + 1) cp, .pointer (some ⟨g1, 0, none⟩), .int .u8 s.k, .bool false, j 20, j 21, j 22, j 23, j 24, j 25, j 26, j 27, j 28, j 29, j 30, j 31, j 32, j 33, j 34, j 35, .agg ([.int .i64 1, .int .i64 0]).toArray, j 37, .slice a0 1 c0, .int .i64 (x.1 : Int), .slice (some ⟨gp, 0, none⟩) ((lev (p2 s.d.toNat + u) - lev 1) + 1) cp, .int .i64 (((lev (p2 s.d.toNat + u) - lev 1) + 1 : Nat) : Int), .bool true, j 43, j 44, .int .i64 (x.1 : Int), .int .i64 ((x.1 + 1 : Nat) : Int), j 47, j 48, j 49, j 50, j 51, j 52, j 53, j 54, j 55, j 56, j 57, j 58, j 59, j 60, j 61, j 62, j 63, j 64, j 65, j 66, j 67, j 68, j 69, j 70]) (fun (q : Nat × Option Addr × Nat × List Blk × Nat) => [⟨g1, [.int .u8 s.k, .int .i64 s.d, .int .i64 s.g, .int .u64 s.p, .int .u64 s.q, .int .u64 s.r], 26⟩, ⟨gp, cur, 3⟩] ++ q.2.2.2.1) (fun (q : Nat × Option Addr × Nat × List Blk × Nat) => x.1 < q.1 ∧ q.1 ≤ s.d.toNat + 1 ∧ q.2.2.2.2 = (labs s (p2 s.d.toNat + u) x.1 ++ rowL s (p2 s.d.toNat + u) x.1 q.1).length ∧ OwnSl 64 2 q.2.1 q.2.2.2.2 q.2.2.1 (sl2 (labs s (p2 s.d.toNat + u) x.1 ++ rowL s (p2 s.d.toNat + u) x.1 q.1)) q.2.2.2.1) (fun (q : Nat × Option Addr × Nat × List Blk × Nat) => s.d.toNat + 1 - q.1) (x.1 + 1, x.2.1, x.2.2.1, x.2.2.2.1, x.2.2.2.2) (by kernel_rfl) hW ⟨by simp only; omega, by simp only; omega, by simp only [rowL_none s _ x.1 (Nat.le_refl _), List.append_nil]; exact hxn, by simp only [rowL_none s _ x.1 (Nat.le_refl _), List.append_nil]; exact hO⟩ ?_
   intro q j W hx hW
   replace hO := hx.2.2.2
   have hOq := hx.2.2.2
   have hqn := hx.2.2.1
   have hqm := hqn
   rw [List.length_append] at hqm
   have hx1 := hx.1
   have hx2 := hx.2.1
   have hq1 := labs_len s (p2 s.d.toNat + u) x.1
   have hq2 := rowL_len s (p2 s.d.toNat + u) x.1 q.1
   have hq3 : x.1 * (s.d.toNat + 1) ≤ 7 * 7 := Nat.mul_le_mul (by omega) (by omega)
   refine c_seq (c_seq (c_reg ?_))
   refine aI ?_
   refine aS ?_
   refine l_val (r_lenSlice Tryz.underlying27 rfl rfl) rfl rfl ?_
   refine l_val (r_lssN rfl rfl rfl rfl) rfl rfl ?_
   refine l_split ?_ ?_
   ·intro hc4
    replace hc4 := of_decide_eq_true hc4
    refine l_end (n_then ?_)
    refine c_true rfl ?_
    refine c_skip (n_then (c_seq (c_block (c_seq ?_))))
    refine c_regM hW [] [.q, .q, .q, .q, .q, .q, .q, .q, .q, .q, .mk 0, .st 0] [⟨10, allocX 64 2⟩] [z64] [10] [0, 0, 3, 7, 0, 0, 48, 112, 240, 511, 0, 2047] (by kernel_rfl) (by kernel_rfl) rfl (by kernel_rfl) ?_
    refine yS ?_
    refine yI ?_
    refine y_val (r_indexAddrSl1 (n := x.1) Tryz.underlying27 tyC3.size rfl rfl rfl (by omega)) rfl rfl ?_
    refine y_loadC 1 tyC3 (v := .int .i64 ((pn s.d.toNat (p2 s.d.toNat + u) x.1 : Nat) : Int)) (by kernel_rfl) rfl rfl rfl rfl (hnode x.1 (by omega)) (by decide) ?_
    refine yS ?_
    refine yI ?_
    refine y_val (r_indexAddrSl1 (n := q.1) Tryz.underlying27 tyC3.size rfl rfl rfl (by omega)) rfl rfl ?_
    refine y_loadC 1 tyC3 (v := .int .i64 ((pn s.d.toNat (p2 s.d.toNat + u) q.1 : Nat) : Int)) (by kernel_rfl) rfl rfl rfl rfl (hnode q.1 (by omega)) (by decide) ?_
    refine y_val (r_xorS rfl rfl rfl (Nat.lt_of_le_of_lt (sh_le _ _) (by omega))) rfl rfl ?_
    refine y_val (r_build (ps := [(0, .int _ _), (1, .int _ _)]) (bld64_0_1 _ _) rfl rfl) rfl rfl ?_
    refine y_alloc 0 tyZ64 rfl rfl rfl rfl ?_
    refine y_stA 0 tyA64 rfl rfl rfl rfl (by first | rfl | exact kc_len _ | exact kcf_len _ | exact boC_len _ _ | (simp; done)) (by first | exact kc_one _ | exact kcf_one _ | exact boC_one _ _ | (simp [Value.oneCell']; done)) ?_
    refine y_end ?_
    refine y_made ?_
    rintro _ _ ⟨g2, rfl, rfl, -⟩
    intro W hW
    refine n_then (c_seq (c_reg ?_))
    refine dA hW 1 tyA26 ?_
    refine dA hW 0 tyA64 ?_
    refine l_call hW (g_rIsSubset _ _ _ hs) en154 rfl rfl rfl rfl ?_
    intro W hW
    refine l_split ?_ ?_
    ·intro hc5
     have hrow : labs s (p2 s.d.toNat + u) x.1 ++ rowL s (p2 s.d.toNat + u) x.1 (q.1 + 1) = (labs s (p2 s.d.toNat + u) x.1 ++ rowL s (p2 s.d.toNat + u) x.1 q.1) ++ [(((pn s.d.toNat (p2 s.d.toNat + u) x.1 : Nat) : Int), ((sib (pn s.d.toNat (p2 s.d.toNat + u) q.1) : Nat) : Int))] := by rw [rowL, if_pos (by omega), labE, if_pos hc5, List.append_assoc]
     refine l_end (n_then ?_)
     refine c_true rfl ?_
     refine c_reg ?_
     refine aS ?_
     refine dA hW 0 tyA64 ?_
     refine l_buildSliceF hW (bsl33_1_0 _ _) rfl rfl rfl rfl ?_
     intro gb W hW
     refine l_appendB tyE33 (L := [_, _, _, _]) hO hW 0 (N := (labs s (p2 s.d.toNat + u) x.1 ++ rowL s (p2 s.d.toNat + u) x.1 (q.1 + 1)).length) (by rw [hrow]; simp only [List.length_append, List.length_cons, List.length_nil] <;> omega) rfl rfl rfl rfl rfl rfl rfl (by simp [Value.oneCell']) (by rw [hrow]; simp only [List.length_append, List.length_cons, List.length_nil]; unfold maxLen; omega) (by rw [hrow]; simp only [List.length_append, List.length_cons, List.length_nil]; omega) ?_
     intro a1 c1 Bs1 W hO1 hW
     replace hO1 := hO1.castx rfl (xs' := sl2 (labs s (p2 s.d.toNat + u) x.1 ++ rowL s (p2 s.d.toNat + u) x.1 (q.1 + 1))) (by rw [hrow, sl2_append (labs s (p2 s.d.toNat + u) x.1 ++ rowL s (p2 s.d.toNat + u) x.1 q.1) [_]]; rfl)
     refine bS ?_
     refine l_end (n_block (n_then (c_reg ?_)))
     refine aI ?_
     refine l_val (r_addN (n := 1) rfl rfl rfl (by omega)) rfl rfl ?_
     refine bI ?_
     refine l_end (n_then ?_)
     exact loop_next (q.1 + 1, a1, c1, Bs1, (labs s (p2 s.d.toNat + u) x.1 ++ rowL s (p2 s.d.toNat + u) x.1 (q.1 + 1)).length) (by kernel_rfl) (hW.drop 2) ⟨by simp only; omega, by simp only; omega, rfl, hO1⟩ (by simp only; omega)
    ·intro hc5
     have hrow : labs s (p2 s.d.toNat + u) x.1 ++ rowL s (p2 s.d.toNat + u) x.1 (q.1 + 1) = labs s (p2 s.d.toNat + u) x.1 ++ rowL s (p2 s.d.toNat + u) x.1 q.1 := by rw [rowL, if_pos (by omega), labE, if_neg (by rw [hc5]; decide), List.append_nil]
     refine l_end (n_then ?_)
     refine c_false rfl ?_
     refine c_skip (n_block (n_then (c_reg ?_)))
     refine aI ?_
     refine l_val (r_addN (n := 1) rfl rfl rfl (by omega)) rfl rfl ?_
     refine bI ?_
     refine l_end (n_then ?_)
     exact loop_next (q.1 + 1, q.2.1, q.2.2.1, q.2.2.2.1, q.2.2.2.2) (by kernel_rfl) (hW.drop 1) ⟨by simp only; omega, by simp only; omega, by simp only [hrow]; exact hqn, by simp only [hrow]; exact hOq⟩ (by simp only; omega)
   ·intro hc4
    replace hc4 := of_decide_eq_false hc4
    refine l_end (n_then ?_)
    refine c_false rfl ?_
    refine c_exit (x_then (x_then ?_))
    refine x_hit ?_
    refine n_block (n_then (c_reg ?_))
    refine aI ?_
    refine l_val (r_addN (n := 1) rfl rfl rfl (by omega)) rfl rfl ?_
    refine bI ?_
    refine l_end (n_then ?_)
    have e : q.1 = s.d.toNat + 1 := by omega
    exact loop_next (x.1 + 1, q.2.1, q.2.2.1, q.2.2.2.1, q.2.2.2.2) (by kernel_rfl) hW ⟨by simp only; omega, by simp only [labs, ← e]; exact hqn, by simp only [labs, ← e]; exact hOq⟩ (by simp only; omega)
  ·intro hc3
   replace hc3 := of_decide_eq_false hc3
   refine l_end (n_then ?_)
   refine c_false rfl ?_
   refine c_exit (x_then (x_then ?_))
   refine x_hit ?_
   refine n_then (c_seq (c_reg ?_))
   refine aS ?_
   refine bS ?_
   refine l_end (n_then (c_ret ?_))
   refine ret_tmp (v := .slice _ _ _) rfl rfl ?_
   have e : x.1 = s.d.toNat + 1 := by omega
   rw [show labN s u = labs s (p2 s.d.toNat + u) x.1 by rw [labN, if_neg (by omega), e], ← hxn]
   exact ⟨_, _, rfl, ⟨_, _, rfl, hO⟩, hW.sub (List.sublist_append_right _ _)⟩

end Go.Proofs.YtoegpalacppllaaGreat

/- What is known, by the reference. -/
namespace Go.Proofs.YtoegpalacppllaaGreat
open Go.RowKit Pl
open Tr Hn
set_option maxRecDepth 10000 in
/-- headend/headendref03.Known -/
theorem g_rKnownN (s : Sc) (u : Nat) (v x : Int) (hs : schB s = true) (hu : u < p2 s.d.toNat) (hx : subB s v x = true) : Gives Tryz.prog 180 [.agg [.int .u8 s.k, .int .i64 s.d, .int .i64 s.g, .int .u64 s.p, .int .u64 s.q, .int .u64 s.r].toArray, .int .i64 (u : Int), .agg [.int .i64 v, .int .i64 x].toArray].toArray (.int .i64 (knownI s (labN s u) v x)) := by
 refine gives_of Tryz.func180 rfl (bs := [.agg [.int .u8 s.k, .int .i64 s.d, .int .i64 s.g, .int .u64 s.p, .int .u64 s.q, .int .u64 s.r].toArray, .int .i64 (u : Int), .agg [.int .i64 v, .int .i64 x].toArray, undef, undef, undef, undef, undef, undef, undef, undef, undef, undef, undef, undef, undef, undef, undef, undef, undef, undef, undef, undef, undef, undef, undef, undef, undef, undef, undef, undef, undef]) rfl ?_
 intro w hW
 have hll := lab_len (u := u) hs
 have hlp := lab_pos s u
 refine c_seq (c_reg ?_)
 refine xB hW ?_
 intro g1 W hW
 refine xB hW ?_
 intro g2 W hW
 refine bI ?_
 refine l_end (n_then (c_seq (c_reg ?_)))
 refine dA hW 1 tyA26 ?_
 refine aI ?_
 refine l_callX hW (g_rLabelsOf s u hs hu) en191 trivial rfl rfl rfl rfl ?_
 rintro _ _ W ⟨aq, cq, rfl, hO⟩ hW
 obtain ⟨gq, cur, rfl, rfl, -, -, htk⟩ := hO.row (by omega)
 have hq0 : ∀ i, i < (labN s u).length → cur[0 + i * 2 + 0]? = some (.int .i64 (qn (labN s u) i)) := fun i hi => take_get htk (by rw [show 0 + i * 2 + 0 = 2 * i by omega]; exact sl2_get0 _ i hi)
 have hq1 : ∀ i, i < (labN s u).length → cur[0 + i * 2 + 1]? = some (.int .i64 (qm (labN s u) i)) := fun i hi => take_get htk (by rw [show 0 + i * 2 + 1 = 2 * i + 1 by omega]; exact sl2_get1 _ i hi)
 refine bS ?_
 refine l_end (n_then (c_seq (c_seq (c_reg ?_))))
 refine bI ?_
 refine l_end (n_then (c_block ?_))
 refine c_loop (fun (i : Nat) (j : Nat → Value) => [.agg [.int .u8 s.k, .int .i64 s.d, .int .i64 s.g, .int .u64 s.p, .int .u64 s.q, .int .u64 s.r].toArray, .int .i64 (u : Int), .agg [.int .i64 v, .int .i64 x].toArray, .pointer (some ⟨g1, 0, none⟩), j 4, .pointer (some ⟨g2, 0, none⟩), j 6, .slice (some ⟨gq, 0, none⟩) (labN s u).length cq, .int .i64 (i : Int), .agg ([.int .u8 s.k, .int .i64 s.d, .int .i64 s.g, .int .u64 s.p, .int .u64 s.q, .int .u64 s.r]).toArray, .int .i64 (u : Int), .slice (some ⟨gq, 0, none⟩) (labN s u).length cq, j 12, j 13, j 14, j 15, j 16, j 17, j 18, j 19, j 20, j 21, j 22, j 23, j 24, j 25, j 26, j 27, j 28, j 29, j 30, j 31]) (fun (i : Nat) => [⟨g2, [.int .i64 v, .int .i64 x], 64⟩, ⟨g1, [.int .u8 s.k, .int .i64 s.d, .int .i64 s.g, .int .u64 s.p, .int .u64 s.q, .int .u64 s.r], 26⟩, ⟨gq, cur, 64⟩]) (fun (i : Nat) => i ≤ (labN s u).length ∧ ∀ k, k < i → leadB s (qn (labN s u) k) (qm (labN s u) k) v x = false) (fun (i : Nat) => (labN s u).length - i) 0 (by kernel_rfl) hW ⟨by omega, all_zero⟩ ?_
 intro i j W hx hW
 obtain ⟨hi0, hib⟩ := hx
 refine c_seq (c_seq (c_reg ?_))
 refine aI ?_
 refine aS ?_
 refine l_val (r_lenSlice Tryz.underlying33 rfl rfl) rfl rfl ?_
 refine l_val (r_lssN rfl rfl rfl rfl) rfl rfl ?_
 refine l_split ?_ ?_
 ·intro hc1
  replace hc1 := of_decide_eq_true hc1
  refine l_end (n_then ?_)
  refine c_true rfl ?_
  refine c_skip (n_then (c_seq (c_block (c_seq ?_))))
  refine c_regY hW [] [.q, .q, .q, .q, .q, .q, .q, .q, .q, .q, .q, .q, .q] [0, 0, 0, 6, 14, 30, 0, 0, 192, 448, 960, 0, 4095] (by kernel_rfl) (by kernel_rfl) ?_
  refine y_loadA 1 tyA26 rfl rfl rfl rfl rfl (by first | rfl | exact kc_len _ | exact kcf_len _ | exact boC_len _ _ | (simp; done)) (by decide) ?_
  refine yS ?_
  refine yI ?_
  refine y_val (r_indexAddrSlB (n := i) Tryz.underlying33 tyA64.size rfl rfl rfl (by omega)) rfl rfl ?_
  refine y_val (r_fieldAddr _ Tryz.underlying64 rfl tyC3.size rfl rfl rfl) rfl rfl ?_
  refine y_loadC 2 tyC3 (v := .int .i64 (qn (labN s u) i)) (by kernel_rfl) rfl rfl rfl rfl (hq0 i (by omega)) (by decide) ?_
  refine yS ?_
  refine yI ?_
  refine y_val (r_indexAddrSlB (n := i) Tryz.underlying33 tyA64.size rfl rfl rfl (by omega)) rfl rfl ?_
  refine y_val (r_fieldAddr _ Tryz.underlying64 rfl tyC3.size rfl rfl rfl) rfl rfl ?_
  refine y_loadC 2 tyC3 (v := .int .i64 (qm (labN s u) i)) (by kernel_rfl) rfl rfl rfl rfl (hq1 i (by omega)) (by decide) ?_
  refine y_loadA 0 tyA64 rfl rfl rfl rfl rfl (by first | rfl | exact kc_len _ | exact kcf_len _ | exact boC_len _ _ | (simp; done)) (by decide) ?_
  refine y_call (g_rleads s (qn (labN s u) i) (qm (labN s u) i) v x hs hx (lab_lt hs hu i (by omega))) en192 rfl rfl rfl rfl ?_
  refine y_split ?_ ?_
  ·intro hc2
   refine y_end ?_
   intro W hW
   refine n_then ?_
   refine c_true rfl ?_
   refine c_seq (c_reg ?_)
   refine aI ?_
   refine bI ?_
   refine l_end (n_then (c_ret (r_block (r_then (r_then (r_block (r_then ?_)))))))
   refine ret_tmp (v := .int .i64 (knownI s (labN s u) v x)) rfl ?_ ⟨rfl, hW.below⟩
   exact congrArg (Value.int .i64) (known_yes (by omega) hc2 hib).symm
  ·intro hc2
   refine y_end ?_
   intro W hW
   refine n_then ?_
   refine c_false rfl ?_
   refine c_skip (n_block (n_then (c_reg ?_)))
   refine aI ?_
   refine l_val (r_addN (n := 1) rfl rfl rfl (by omega)) rfl rfl ?_
   refine bI ?_
   refine l_end (n_then ?_)
   exact loop_next (i + 1) (by kernel_rfl) hW ⟨by omega, all_upto hib hc2⟩ (by omega)
 ·intro hc1
  replace hc1 := of_decide_eq_false hc1
  refine l_end (n_then ?_)
  refine c_false rfl ?_
  refine c_exit (x_then (x_then ?_))
  refine x_hit ?_
  refine n_then (c_seq (c_reg ?_))
  refine bI ?_
  refine l_end (n_then (c_ret ?_))
  refine ret_tmp (v := .int .i64 (knownI s (labN s u) v x)) rfl ?_ ⟨rfl, hW.below⟩
  exact congrArg (Value.int .i64) (known_no fun k hk => hib k (by omega)).symm

/-- Known, of whole numbers -/
theorem g_rKnown (s : Sc) (u v x : Int) (hs : schB s = true) (h0 : 0 ≤ u) (hu : u < ((p2 s.d.toNat : Nat) : Int)) (hx : subB s v x = true) : Gives Tryz.prog 180 [.agg [.int .u8 s.k, .int .i64 s.d, .int .i64 s.g, .int .u64 s.p, .int .u64 s.q, .int .u64 s.r].toArray, .int .i64 u, .agg [.int .i64 v, .int .i64 x].toArray].toArray (.int .i64 (knownI s (labN s u.toNat) v x)) := by
 obtain ⟨u', rfl⟩ : ∃ n : Nat, u = n := ⟨u.toNat, by omega⟩
 exact g_rKnownN s u' v x hs (by omega) hx
set_option maxRecDepth 10000 in
/-- headend/headendref03.Knows -/
theorem g_rKnows (s : Sc) (aa : Option Addr) (an ac : Nat) (l : List Int) (v x : Int) (hs : schB s = true) (hu : usersB l ((p2 s.d.toNat : Nat) : Int) = true) (hx : subB s v x = true) (hll : l.length ≤ 100) : GivesR Tryz.prog 156 [.agg [.int .u8 s.k, .int .i64 s.d, .int .i64 s.g, .int .u64 s.p, .int .u64 s.q, .int .u64 s.r].toArray, .slice aa an ac, .agg [.int .i64 v, .int .i64 x].toArray].toArray (fun w => RdI w ⟨aa, an, ac⟩ l) (.tuple #[.bool (opnB s l v x), .int .i64 0]) := by
 refine givesR_of Tryz.func156 rfl (bs := [.agg [.int .u8 s.k, .int .i64 s.d, .int .i64 s.g, .int .u64 s.p, .int .u64 s.q, .int .u64 s.r].toArray, .slice aa an ac, .agg [.int .i64 v, .int .i64 x].toArray, undef, undef, undef, undef, undef, undef, undef, undef, undef, undef, undef, undef, undef, undef, undef, undef, undef, undef, undef, undef, undef, undef, undef, undef, undef, undef, undef, undef, undef, undef, undef, undef]) rfl ?_
 intro w hP hW
 obtain ⟨k1, k3, d0, d6, -⟩ := schB_iff.1 hs
 have hn : an = l.length := hP.len
 have hx0 := hx
 refine c_seq (c_reg ?_)
 refine xB hW ?_
 intro g1 W hW
 refine xB hW ?_
 intro g2 W hW
 refine bB ?_
 refine bI ?_
 refine l_end (n_then (c_seq (c_seq (c_reg ?_))))
 refine dA hW 1 tyA26 ?_
 refine l_call hW (g_rValid s) en153 rfl rfl rfl rfl ?_
 intro W hW
 rw [hs]
 refine l_val (r_not rfl rfl) rfl rfl ?_
 refine l_end (n_then ?_)
 refine c_false rfl ?_
 refine c_skip (n_then (c_seq (c_seq (c_reg ?_))))
 refine l_val (r_fieldAddr 1 Tryz.underlying26 rfl tyC3.size rfl rfl rfl) rfl rfl ?_
 refine dC hW 1 tyC3 ?_
 refine aS ?_
 refine l_callR hW (g_rIsList s.d d0 d6 aa an ac l (by omega)) en117 (hP.past hW.below) rfl rfl rfl rfl ?_
 intro W hW
 rw [hu]
 refine l_val (r_not rfl rfl) rfl rfl ?_
 refine l_end (n_then ?_)
 refine c_false rfl ?_
 refine c_skip (n_then (c_seq (c_seq (c_reg ?_))))
 refine dA hW 1 tyA26 ?_
 refine dA hW 0 tyA64 ?_
 refine l_call hW (g_rIsSubset s v x hs) en154 rfl rfl rfl rfl ?_
 intro W hW
 rw [hx]
 refine l_val (r_not rfl rfl) rfl rfl ?_
 refine l_end (n_then ?_)
 refine c_false rfl ?_
 refine c_skip (n_then (c_seq (c_seq (c_reg ?_))))
 refine bI ?_
 refine l_end (n_then (c_block ?_))
 refine c_loop (fun (i : Nat) (j : Nat → Value) => [.agg [.int .u8 s.k, .int .i64 s.d, .int .i64 s.g, .int .u64 s.p, .int .u64 s.q, .int .u64 s.r].toArray, .slice aa an ac, .agg [.int .i64 v, .int .i64 x].toArray, .pointer (some ⟨g1, 0, none⟩), j 4, .pointer (some ⟨g2, 0, none⟩), j 6, j 7, .int .i64 (i : Int), .agg ([.int .u8 s.k, .int .i64 s.d, .int .i64 s.g, .int .u64 s.p, .int .u64 s.q, .int .u64 s.r]).toArray, .bool true, .bool false, .pointer (some ⟨g1, 1, none⟩), .int .i64 s.d, .slice aa an ac, .bool true, .bool false, .agg ([.int .u8 s.k, .int .i64 s.d, .int .i64 s.g, .int .u64 s.p, .int .u64 s.q, .int .u64 s.r]).toArray, .agg ([.int .i64 v, .int .i64 x]).toArray, .bool true, .bool false, j 21, j 22, j 23, j 24, j 25, j 26, j 27, j 28, j 29, j 30, j 31, j 32, j 33, j 34]) (fun (i : Nat) => [⟨g2, [.int .i64 v, .int .i64 x], 64⟩, ⟨g1, [.int .u8 s.k, .int .i64 s.d, .int .i64 s.g, .int .u64 s.p, .int .u64 s.q, .int .u64 s.r], 26⟩]) (fun (i : Nat) => i ≤ an ∧ ∀ k, k < i → memB s v x (at_ l k).toNat = false) (fun (i : Nat) => an - i) 0 (by kernel_rfl) hW ⟨by omega, all_zero⟩ ?_
 intro i j W hx hW
 obtain ⟨hi0, hib⟩ := hx
 refine c_seq (c_seq (c_reg ?_))
 refine aI ?_
 refine aS ?_
 refine l_val (r_lenSlice Tryz.underlying27 rfl rfl) rfl rfl ?_
 refine l_val (r_lssN rfl rfl rfl rfl) rfl rfl ?_
 refine l_split ?_ ?_
 ·intro hc1
  replace hc1 := of_decide_eq_true hc1
  obtain ⟨b0, o0, ha, hc⟩ := hP.ptr (by omega)
  simp only at ha
  subst ha
  refine l_end (n_then ?_)
  refine c_true rfl ?_
  refine c_skip (n_then (c_seq (c_block (c_seq ?_))))
  refine c_regY hW [] [.q, .q, .q, .q, .q, .q, .q, .q] [0, 0, 0, 6, 14, 0, 63, 127] (by kernel_rfl) (by kernel_rfl) ?_
  refine y_loadA 1 tyA26 rfl rfl rfl rfl rfl (by first | rfl | exact kc_len _ | exact kcf_len _ | exact boC_len _ _ | (simp; done)) (by decide) ?_
  refine yS ?_
  refine yI ?_
  refine y_val (r_indexAddrSl2 (n := i) Tryz.underlying27 tyC3.size rfl rfl rfl (by omega)) rfl rfl ?_
  refine y_loadF tyC3 (v := .int .i64 (at_ l (i))) (hc (i) (by omega)) (by kernel_rfl) rfl rfl rfl ?_
  refine y_loadA 0 tyA64 rfl rfl rfl rfl rfl (by first | rfl | exact kc_len _ | exact kcf_len _ | exact boC_len _ _ | (simp; done)) (by decide) ?_
  refine y_call (g_rKnown _ _ _ _ hs (users_at hu (by omega)).1 (users_at hu (by omega)).2 hx) en180 rfl rfl rfl rfl ?_
  refine y_val (r_geq rfl rfl rfl rfl) rfl rfl ?_
  refine y_split ?_ ?_
  ·intro hc2
   replace hc2 := of_decide_eq_true hc2
   refine y_end ?_
   intro W hW
   refine n_then ?_
   refine c_true rfl ?_
   refine c_seq (c_reg ?_)
   refine bB ?_
   refine bI ?_
   refine l_end (n_then (c_ret (r_block (r_then (r_then (r_block (r_then ?_)))))))
   refine ret_tmp2 rfl rfl rfl ?_
   exact ⟨by rw [opn_yes (i := i) (by omega) ((known_mem hs hx0 (by have := users_at hu (show i < l.length by omega); omega)).1 hc2)]; rfl, hW.below⟩
  ·intro hc2
   replace hc2 := of_decide_eq_false hc2
   refine y_end ?_
   intro W hW
   refine n_then ?_
   refine c_false rfl ?_
   refine c_skip (n_block (n_then (c_reg ?_)))
   refine aI ?_
   refine l_val (r_addN (n := 1) rfl rfl rfl (by omega)) rfl rfl ?_
   refine bI ?_
   refine l_end (n_then ?_)
   exact loop_next (i + 1) (by kernel_rfl) hW ⟨by omega, all_upto hib (by rw [← Bool.not_eq_true]; exact fun e => hc2 ((known_mem hs hx0 (by have := users_at hu (show i < l.length by omega); omega)).2 e))⟩ (by omega)
 ·intro hc1
  replace hc1 := of_decide_eq_false hc1
  refine l_end (n_then ?_)
  refine c_false rfl ?_
  refine c_exit (x_then (x_then ?_))
  refine x_hit ?_
  refine n_then (c_seq (c_reg ?_))
  refine bB ?_
  refine bI ?_
  refine l_end (n_then (c_ret ?_))
  refine ret_tmp2 rfl rfl rfl ?_
  exact ⟨by rw [opn_no fun k hk => hib k (by omega)]; rfl, hW.below⟩

end Go.Proofs.YtoegpalacppllaaGreat

/- What is open to a box, by the reference. -/
namespace Go.Proofs.YtoegpalacppllaaGreat
open Go.RowKit Pl
open Tr Hn
set_option maxRecDepth 10000 in
/-- headend/headendref08.Opens -/
theorem g_rOpens (b : Bo) (t : Sl) (ra : Option Addr) (rn rc : Nat) (l : List (Int × Int)) (hs : schB b.s = true) (hu : usersB b.l ((p2 b.s.d.toNat : Nat) : Int) = true) (hl : b.l.length ≤ 100) (hq : l.length ≤ 100) (hb : ∀ i, i < l.length → subB b.s (qn l i) (qm l i) = true) : GivesX Tryz.prog 121 [.agg (boC b t).toArray, .slice ra rn rc].toArray (fun w => RdI w t b.l ∧ RdB w ⟨ra, rn, rc⟩ l) (NewSl 4 1 l.length (tl (opens b l l.length))) := by
 refine givesX_of Tryz.func121 rfl (bs := [.agg (boC b t).toArray, .slice ra rn rc, undef, undef, undef, undef, undef, undef, undef, undef, undef, undef, undef, undef, undef, undef, undef, undef, undef, undef, undef, undef, undef, undef, undef, undef, undef, undef, undef, undef, undef, undef]) rfl ?_
 intro w hP hW
 have hn : rn = l.length := hP.2.len
 refine c_seq (c_reg ?_)
 refine xB hW ?_
 intro g1 W hW
 refine bS ?_
 refine l_end (n_then (c_seq (c_reg ?_)))
 refine bS ?_
 refine l_end (n_then (c_seq (c_seq (c_reg ?_))))
 refine bI ?_
 refine l_end (n_then (c_block ?_))
 refine c_loop (fun (x : Nat × Option Addr × Nat × List Blk) (j : Nat → Value) => [.agg (boC b t).toArray, .slice ra rn rc, .pointer (some ⟨g1, 0, none⟩), j 3, j 4, .slice x.2.1 x.1 x.2.2.1, .int .i64 (x.1 : Int), j 7, j 8, j 9, j 10, j 11, j 12, j 13, j 14, j 15, j 16, j 17, j 18, j 19, j 20, j 21, j 22, j 23, j 24, j 25, j 26, j 27, j 28, j 29, j 30, j 31]) (fun (x : Nat × Option Addr × Nat × List Blk) => [⟨g1, (boC b t), 31⟩] ++ x.2.2.2) (fun (x : Nat × Option Addr × Nat × List Blk) => x.1 ≤ rn ∧ OwnSl 4 1 x.2.1 x.1 x.2.2.1 (tl (opens b l x.1)) x.2.2.2) (fun (x : Nat × Option Addr × Nat × List Blk) => rn - x.1) (0, none, 0, []) (by kernel_rfl) (by simpa using hW) ⟨Nat.zero_le _, OwnSl.nil 4 1⟩ ?_
 intro x j W hx hW
 obtain ⟨hx, hO⟩ := hx
 refine c_seq (c_seq (c_reg ?_))
 refine aI ?_
 refine aS ?_
 refine l_val (r_lenSlice Tryz.underlying33 rfl rfl) rfl rfl ?_
 refine l_val (r_lssN rfl rfl rfl rfl) rfl rfl ?_
 refine l_split ?_ ?_
 ·intro hc1
  replace hc1 := of_decide_eq_true hc1
  obtain ⟨b0, o0, ha, hc⟩ := hP.2.ptr (by omega)
  simp only at ha
  subst ha
  refine l_end (n_then ?_)
  refine c_true rfl ?_
  refine c_skip (n_then (c_seq (c_block (c_seq ?_))))
  refine c_regY hW [] [.q, .q, .q, .q, .q, .q, .q, .q, .q, .q, .q, .q, .q, .q] [0, 1, 0, 4, 0, 0, 48, 112, 255, 511, 1023, 1023, 2047, 8191] (by kernel_rfl) (by kernel_rfl) ?_
  refine y_val (r_fieldAddr 0 Tryz.underlying31 rfl tyA26.size rfl rfl rfl) rfl rfl ?_
  refine y_loadP 0 tyA26 rfl rfl rfl rfl rfl (by first | rfl | omega | (simp; done) | (simp; omega)) rfl (by decide) ?_
  refine y_val (r_fieldAddr 6 Tryz.underlying31 rfl tyC27.size rfl rfl rfl) rfl rfl ?_
  refine y_loadC 0 tyC27 rfl rfl rfl rfl rfl rfl (by decide) ?_
  refine yS ?_
  refine yI ?_
  refine y_val (r_indexAddrSlB (n := x.1) Tryz.underlying33 tyA64.size rfl rfl rfl (by omega)) rfl rfl ?_
  refine y_loadF2 tyA64 (hc x.1 (by omega)).1 (hc x.1 (by omega)).2 (by kernel_rfl) rfl rfl rfl ?_
  refine y_callR (g_rKnows b.s t.a t.n t.c b.l (qn l x.1) (qm l x.1) hs hu (hb x.1 (by omega)) hl) en156 (fun L2 w hs hC => hP.1.past hC.below) (by kernel_rfl) rfl rfl rfl ?_
  refine y_val (r_move (v := .tuple _) rfl rfl) rfl rfl ?_
  refine y_val (r_extract (v := .bool _) rfl rfl rfl) rfl rfl ?_
  refine y_val (r_extract (v := .int _ _) rfl rfl rfl) rfl rfl ?_
  refine y_val (r_assign (v := .bool _) rfl rfl) rfl rfl ?_
  refine y_val (r_assign (v := .int _ _) rfl rfl) rfl rfl ?_
  refine y_end ?_
  intro W hW
  refine n_then (c_reg ?_)
  refine aS ?_
  refine aB ?_
  refine l_buildSliceF hW (bsl155_1_0 _) rfl rfl rfl rfl ?_
  intro gb W hW
  refine l_appendB tyE155 (L := [_, _]) hO hW 0 (N := x.1 + 1) rfl rfl rfl rfl rfl rfl rfl rfl (by simp [Value.oneCell']) (by unfold maxLen; omega) (by omega) ?_
  intro a1 c1 Bs1 W hO1 hW
  replace hO1 := hO1.castx rfl (xs' := tl (opens b l (x.1 + 1))) (by rw [opens_succ, tl_append]; rfl)
  refine bS ?_
  refine l_end (n_block (n_then (c_reg ?_)))
  refine aI ?_
  refine l_val (r_addN (n := 1) rfl rfl rfl (by omega)) rfl rfl ?_
  refine bI ?_
  refine l_end (n_then ?_)
  exact loop_next (x.1 + 1, a1, c1, Bs1) (by kernel_rfl) (hW.drop 1) ⟨by simp only; omega, hO1⟩ (by simp only; omega)
 ·intro hc1
  replace hc1 := of_decide_eq_false hc1
  refine l_end (n_then ?_)
  refine c_false rfl ?_
  refine c_exit (x_then (x_then ?_))
  refine x_hit ?_
  refine n_then (c_seq (c_reg ?_))
  refine aS ?_
  refine bS ?_
  refine l_end (n_then (c_ret ?_))
  refine ret_tmp (v := .slice _ _ _) rfl rfl ?_
  have e : x.1 = l.length := by omega
  exact ⟨_, _, rfl, ⟨_, _, by rw [e], by rw [← e]; exact hO⟩, hW.sub (List.sublist_append_right _ _)⟩

end Go.Proofs.YtoegpalacppllaaGreat

