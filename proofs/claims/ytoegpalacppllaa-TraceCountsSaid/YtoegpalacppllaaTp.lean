/- Plain laws of schemes: which are valid, how many receivers there are, bounds. No program is in sight here. -/
namespace Go.Proofs.Ytoegpalacppllaa.Tr

/-- a scheme -/
structure Sc where
  k : Int
  d : Int
  g : Int
  p : Int
  q : Int
  r : Int
def schB (s : Sc) : Bool := decide (1 ≤ s.k ∧ s.k ≤ 3 ∧ 0 ≤ s.d ∧ s.d ≤ 6 ∧ s.g = 0 ∧ s.p = 0 ∧ s.q = 0 ∧ s.r = 0)
theorem schB_iff {s : Sc} : schB s = true ↔ (1 ≤ s.k ∧ s.k ≤ 3 ∧ 0 ≤ s.d ∧ s.d ≤ 6 ∧ s.g = 0 ∧ s.p = 0 ∧ s.q = 0 ∧ s.r = 0) := decide_eq_true_iff
theorem schB_yes {s : Sc} (h : 1 ≤ s.k ∧ s.k ≤ 3 ∧ 0 ≤ s.d ∧ s.d ≤ 6 ∧ s.g = 0 ∧ s.p = 0 ∧ s.q = 0 ∧ s.r = 0) : schB s = true := decide_eq_true h
theorem schB_no {s : Sc} (h : ¬ (1 ≤ s.k ∧ s.k ≤ 3 ∧ 0 ≤ s.d ∧ s.d ≤ 6 ∧ s.g = 0 ∧ s.p = 0 ∧ s.q = 0 ∧ s.r = 0)) : schB s = false := decide_eq_false h
theorem schB_dec {s : Sc} {p : Prop} [Decidable p] (h : p ↔ (1 ≤ s.k ∧ s.k ≤ 3 ∧ 0 ≤ s.d ∧ s.d ≤ 6 ∧ s.g = 0 ∧ s.p = 0 ∧ s.q = 0 ∧ s.r = 0)) : decide p = schB s := decide_eq_decide.2 h
/-- the error of a scheme -/
def chk (s : Sc) : Int := if schB s then 0 else 30
theorem chk_yes {s : Sc} (h : schB s = true) : chk s = 0 := by simp [chk, h]
theorem chk_no {s : Sc} (h : schB s = false) : chk s = 30 := by simp [chk, h]
theorem chk_zero {s : Sc} (h : ¬ chk s ≠ 0) : schB s = true := by
  cases hs : schB s with
  | true => rfl
  | false => exact absurd (by rw [chk_no hs]; decide) h
theorem chk_bad {s : Sc} (h : chk s ≠ 0) : schB s = false := by
  cases hs : schB s with
  | true => exact absurd (chk_yes hs) h
  | false => rfl
/-- powers of two -/
def p2 : Nat → Nat
  | 0 => 1
  | n + 1 => 2 * p2 n
theorem p2_pow (n : Nat) : p2 n = 2 ^ n := by
  induction n with
  | zero => rfl
  | succ n ih => rw [p2, ih, Nat.pow_succ]; omega
theorem p2_mono : ∀ {m n : Nat}, m ≤ n → p2 m ≤ p2 n := fun {m n} h => by rw [p2_pow, p2_pow]; exact Nat.pow_le_pow_right (by decide) h
theorem p2_le {n : Nat} (h : n ≤ 6) : p2 n ≤ 64 := p2_mono (n := 6) h
theorem p2_pos (n : Nat) : 0 < p2 n := by rw [p2_pow]; exact Nat.pow_pos (by decide)
/-- the stride of a depth -/
def strideN (d : Int) : Nat := if d ≤ 1 then 1 else if d ≤ 4 then 2 else 3
/-- the tree of a scheme -/
def tk (s : Sc) : Int := if schB s then s.k else 0
def td (s : Sc) : Int := if schB s then s.d else 0
def ts (s : Sc) : Nat := if schB s then strideN s.d else 0

/-- the bound on the queries of a trace -/
def lim (d noise : Int) : Int := ((2 * p2 d.toNat + 1 : Nat) : Int) * (d + 2) * (2 * noise + 1)
theorem lim_a {d : Int} (h0 : 0 ≤ d) (h6 : d ≤ 6) : 0 ≤ ((2 * p2 d.toNat + 1 : Nat) : Int) * (d + 2) ∧ ((2 * p2 d.toNat + 1 : Nat) : Int) * (d + 2) ≤ 1032 := by
  have : d = 0 ∨ d = 1 ∨ d = 2 ∨ d = 3 ∨ d = 4 ∨ d = 5 ∨ d = 6 := by omega
  rcases this with rfl | rfl | rfl | rfl | rfl | rfl | rfl <;> decide
theorem lim_b {d n : Int} (h0 : 0 ≤ d) (h6 : d ≤ 6) (n0 : 0 ≤ n) (n8 : n ≤ 8) : 0 ≤ lim d n ∧ lim d n ≤ 17544 := by
  obtain ⟨a, b⟩ := lim_a h0 h6
  unfold lim
  refine ⟨Int.mul_nonneg a (by omega), ?_⟩
  exact Int.le_trans (Int.mul_le_mul b (by omega : 2 * n + 1 ≤ 17) (by omega) (by omega)) (by decide)
theorem lim1 {d : Int} (h0 : 0 ≤ d) (h6 : d ≤ 6) : -9223372036854775808 ≤ ((2 * p2 d.toNat + 1 : Nat) : Int) * (d + 2) ∧ ((2 * p2 d.toNat + 1 : Nat) : Int) * (d + 2) ≤ 9223372036854775807 := by
  have := lim_a h0 h6; omega
theorem lim2 {d n : Int} (h0 : 0 ≤ d) (h6 : d ≤ 6) (n0 : 0 ≤ n) (n8 : n ≤ 8) : -9223372036854775808 ≤ ((2 * p2 d.toNat + 1 : Nat) : Int) * (d + 2) * (2 * n + 1) ∧ ((2 * p2 d.toNat + 1 : Nat) : Int) * (d + 2) * (2 * n + 1) ≤ 9223372036854775807 := by
  have := lim_b h0 h6 n0 n8
  unfold lim at this; omega
def boundV (s : Sc) (n : Int) : Int := if schB s = true ∧ 0 ≤ n ∧ n ≤ 8 then lim s.d n else 0
def boundE (s : Sc) (n : Int) : Int := if schB s = false then 30 else if 0 ≤ n ∧ n ≤ 8 then 0 else 2
theorem bound_bad {s : Sc} {n : Int} (h : schB s = false) : boundV s n = 0 ∧ boundE s n = 30 := by simp [boundV, boundE, h]
theorem bound_arg {s : Sc} {n : Int} (h : schB s = true) (hn : ¬ (0 ≤ n ∧ n ≤ 8)) : boundV s n = 0 ∧ boundE s n = 2 := by simp only [boundV, boundE, h, hn, and_false, if_false]; simp
theorem bound_ok {s : Sc} {n : Int} (h : schB s = true) (hn : 0 ≤ n ∧ n ≤ 8) : boundV s n = lim s.d n ∧ boundE s n = 0 := by simp [boundV, boundE, h, hn]

/-- how often a number of users is halved -/
def clog (u : Int) : Nat := if u ≤ 1 then 0 else if u ≤ 2 then 1 else if u ≤ 4 then 2 else if u ≤ 8 then 3 else if u ≤ 16 then 4 else if u ≤ 32 then 5 else 6
theorem clog_le (u : Int) : clog u ≤ 6 := by
  unfold clog
  (repeat' split) <;> omega
theorem clog_lt {u : Int} {c : Nat} (hc : c ≤ 6) (h64 : u ≤ 64) (h : (p2 c : Int) < u) : c < clog u := by
  have : c = 0 ∨ c = 1 ∨ c = 2 ∨ c = 3 ∨ c = 4 ∨ c = 5 ∨ c = 6 := by omega
  unfold clog
  rcases this with rfl | rfl | rfl | rfl | rfl | rfl | rfl <;> simp only [p2] at h <;> (repeat' split) <;> omega
theorem clog_pow {u : Int} {c : Nat} (h : c < clog u) : (p2 c : Int) < u := by
  have h6 := clog_le u
  have : c = 0 ∨ c = 1 ∨ c = 2 ∨ c = 3 ∨ c = 4 ∨ c = 5 := by omega
  unfold clog at h
  rcases this with rfl | rfl | rfl | rfl | rfl | rfl <;> simp only [p2] <;> (repeat' (split at h)) <;> omega
theorem clog_ge {u : Int} {c : Nat} (hc : c ≤ clog u) (h : ¬ (p2 c : Int) < u) : c = clog u := by
  rcases Nat.lt_or_ge c (clog u) with h1 | h1
  · exact absurd (clog_pow h1) h
  · omega
def roundsV (u p : Int) : Int := if 1 ≤ u ∧ u ≤ 64 ∧ 0 ≤ p ∧ p ≤ u then p * ((1 + clog u : Nat) : Int) else 0
def roundsE (u p : Int) : Int := if 1 ≤ u ∧ u ≤ 64 ∧ 0 ≤ p ∧ p ≤ u then 0 else 2
theorem rounds_bad {u p : Int} (h : ¬ (1 ≤ u ∧ u ≤ 64 ∧ 0 ≤ p ∧ p ≤ u)) : roundsV u p = 0 ∧ roundsE u p = 2 := by simp only [roundsV, roundsE, h, if_false]; exact ⟨trivial, trivial⟩
theorem rounds_ok {u p : Int} (h : 1 ≤ u ∧ u ≤ 64 ∧ 0 ≤ p ∧ p ≤ u) : roundsV u p = p * ((1 + clog u : Nat) : Int) ∧ roundsE u p = 0 := by simp only [roundsV, roundsE, h, and_self, if_true]
theorem rounds_fit {u p : Int} (h : 1 ≤ u ∧ u ≤ 64 ∧ 0 ≤ p ∧ p ≤ u) : -9223372036854775808 ≤ p * ((1 + clog u : Nat) : Int) ∧ p * ((1 + clog u : Nat) : Int) ≤ 9223372036854775807 := by
  have h1 : 0 ≤ p * ((1 + clog u : Nat) : Int) := Int.mul_nonneg (by omega) (by omega)
  have h2 : p * ((1 + clog u : Nat) : Int) ≤ 64 * 7 := Int.mul_le_mul (by omega) (by have := clog_le u; omega) (by omega) (by decide)
  omega
end Go.Proofs.Ytoegpalacppllaa.Tr
