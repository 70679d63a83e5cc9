/- Part 3 of 5: what the law of this claim leans on -/
import Derived.Test.YtoegpalacppllaaGreatPkE2
import Derived.Lib.SlicesCompact
import Derived.Lib.RowBridge
import Derived.Shelf.Small.Bits
import Derived.Shelf.Strconv.Itoa0
import Derived.Shelf.Sort.Plain
import Derived.Ground.Names2Prog
import Derived.Shelf.Slices.CompactI
import Derived.Shelf.Slices.SearchI
import Derived.Shelf.Slices.Cells
import Derived.Shelf.Slices.In.SortNone
import Derived.Shelf.Slices.Empties
import Derived.Test.YtoegpalacppllaaGreatProg
import Derived.MapKept
/- A trace: queries up to the first that is played, the search, rounds. No program is in sight here. -/
namespace Go.Proofs.YtoegpalacppllaaGreat.Tr
open Hn

/-- queries with a number of fakes, at most so many, up to the first that is played: the box, whether there was one, and how many queries there were, beside those before -/
def seenN (o : List Bool) (f : Int) : Nat → Bo → Nat → Bo × Bool × Nat
  | 0, b, n => (b, false, n)
  | k + 1, b, n => if plays b o f then (askd b o f, true, n + 1) else seenN o f k (askd b o f) (n + 1)
theorem seenN_zero (o : List Bool) (f : Int) (b : Bo) (n : Nat) : seenN o f 0 b n = (b, false, n) := rfl
theorem seenN_yes {o : List Bool} {f : Int} {k : Nat} {b : Bo} {n : Nat} (h : plays b o f = true) : seenN o f (k + 1) b n = (askd b o f, true, n + 1) := by rw [seenN, if_pos h]
theorem seenN_no {o : List Bool} {f : Int} {k : Nat} {b : Bo} {n : Nat} (h : plays b o f = false) : seenN o f (k + 1) b n = seenN o f k (askd b o f) (n + 1) := by rw [seenN, if_neg (by rw [h]; decide)]
/-- a box after so many queries -/
structure Askd (b0 b : Bo) (c : Nat) : Prop where
  s : b.s = b0.s
  l : b.l = b0.l
  m : b.m = b0.m
  n : b.n = b0.n
  v : b.v = b0.v
  k : b.k = b0.k
  a : b.a = b0.a + (c : Int)
  x0 : 0 ≤ b.x
  x1 : b.x ≤ b.a
  x2 : b0.x ≤ b.x
theorem Askd.refl {b : Bo} (h0 : 0 ≤ b.x) (h1 : b.x ≤ b.a) : Askd b b 0 := ⟨rfl, rfl, rfl, rfl, rfl, rfl, by simp, h0, h1, Int.le_refl _⟩
theorem Askd.ask {b0 b : Bo} {c : Nat} (h : Askd b0 b c) (o : List Bool) (f : Int) : Askd b0 (askd b o f) (c + 1) := by
  unfold askd after
  have := h.a
  have := h.x0
  have := h.x1
  have := h.x2
  split
  · exact ⟨h.s, h.l, h.m, h.n, h.v, h.k, by simp only; omega, by simp only; omega, by simp only; omega, by simp only; omega⟩
  · exact ⟨h.s, h.l, h.m, h.n, h.v, h.k, by simp only; omega, by simp only; omega, by simp only; omega, by simp only; omega⟩
theorem Askd.trans {b0 b1 b2 : Bo} {c d : Nat} (h : Askd b0 b1 c) (k : Askd b1 b2 d) : Askd b0 b2 (c + d) :=
  ⟨k.s.trans h.s, k.l.trans h.l, k.m.trans h.m, k.n.trans h.n, k.v.trans h.v, k.k.trans h.k, by rw [k.a, h.a]; omega, k.x0, k.x1, Int.le_trans h.x2 k.x2⟩
theorem seenN_run {b0 : Bo} (o : List Bool) (f : Int) : ∀ (k : Nat) {b : Bo} {c : Nat} (n : Nat), Askd b0 b c → ∃ j, j ≤ k ∧ Askd b0 (seenN o f k b n).1 (c + j) ∧ (seenN o f k b n).2.2 = n + j ∧ ((seenN o f k b n).2.1 = false → j = k)
  | 0, b, c, n, h => ⟨0, Nat.le_refl _, h, rfl, fun _ => rfl⟩
  | k + 1, b, c, n, h => by
    cases hp : plays b o f with
    | true => rw [seenN_yes hp]; exact ⟨1, by omega, h.ask o f, rfl, fun h => by cases h⟩
    | false =>
      rw [seenN_no hp]
      obtain ⟨j, h1, h2, h3, h4⟩ := seenN_run o f k (n + 1) (h.ask o f)
      exact ⟨j + 1, by omega, by rw [show c + (j + 1) = c + 1 + j by omega]; exact h2, by omega, fun e => by rw [h4 e]⟩
theorem plays_pos {b : Bo} {o : List Bool} {f : Int} (h : plays b o f = true) : 0 < o.length := by
  apply Classical.byContradiction
  intro hn
  obtain rfl : o = [] := List.eq_nil_of_length_eq_zero (by omega)
  exact absurd (show askW b 0 0 false = true from h) (by rw [ask_no (.inl rfl)]; decide)
theorem seenN_pos {o : List Bool} {f : Int} : ∀ {k : Nat} {b : Bo} {n : Nat}, (seenN o f k b n).2.1 = true → 0 < o.length
  | 0, b, n, h => by cases h
  | k + 1, b, n, h => by
    cases hp : plays b o f with
    | true => exact plays_pos hp
    | false => rw [seenN_no hp] at h; exact seenN_pos h
/-- the search: the box, the index low, and how many queries there were, beside those before -/
def searchN (o : List Bool) (N : Nat) : Nat → Nat → Nat → Bo → Nat → Bo × Nat × Nat
  | 0, low, _, b, a => (b, low, a)
  | k + 1, low, high, b, a => if high - low ≤ 1 then (b, low, a) else
    match seenN o (((low + high) / 2 : Nat) : Int) N b a with
    | (x, true, n) => searchN o N k ((low + high) / 2) high x n
    | (x, false, n) => searchN o N k low ((low + high) / 2) x n
theorem searchN_end {o : List Bool} {N k low high : Nat} {b : Bo} {a : Nat} (h : high - low ≤ 1) : searchN o N k low high b a = (b, low, a) := by
  cases k with
  | zero => rfl
  | succ k => rw [searchN, if_pos h]
theorem searchN_yes {o : List Bool} {N k low high : Nat} {b x : Bo} {a n : Nat} (h : ¬ high - low ≤ 1) (hs : seenN o (((low + high) / 2 : Nat) : Int) N b a = (x, true, n)) : searchN o N (k + 1) low high b a = searchN o N k ((low + high) / 2) high x n := by rw [searchN, if_neg h, hs]
theorem searchN_no {o : List Bool} {N k low high : Nat} {b x : Bo} {a n : Nat} (h : ¬ high - low ≤ 1) (hs : seenN o (((low + high) / 2 : Nat) : Int) N b a = (x, false, n)) : searchN o N (k + 1) low high b a = searchN o N k low ((low + high) / 2) x n := by rw [searchN, if_neg h, hs]
theorem searchN_fuel {o : List Bool} {N : Nat} : ∀ {k j low high : Nat} {b : Bo} {a : Nat}, high - low ≤ k → high - low ≤ j → searchN o N k low high b a = searchN o N j low high b a
  | 0, j, low, high, b, a, h, _ => by rw [searchN_end (by omega), searchN_end (by omega)]
  | k + 1, 0, low, high, b, a, _, h => by rw [searchN_end (by omega), searchN_end (by omega)]
  | k + 1, j + 1, low, high, b, a, h1, h2 => by
    by_cases h : high - low ≤ 1
    · rw [searchN_end h, searchN_end h]
    · rcases hs : seenN o (((low + high) / 2 : Nat) : Int) N b a with ⟨x, p, n⟩
      cases p with
      | true => rw [searchN_yes h hs, searchN_yes h hs]; exact searchN_fuel (by omega) (by omega)
      | false => rw [searchN_no h hs, searchN_no h hs]; exact searchN_fuel (by omega) (by omega)
theorem searchN_run {b0 : Bo} (o : List Bool) (N : Nat) : ∀ (k : Nat) {i low high : Nat} {b : Bo} {c : Nat} (a : Nat), Askd b0 b c → low < high → high - low ≤ p2 i →
    ∃ j, j ≤ i * N ∧ Askd b0 (searchN o N k low high b a).1 (c + j) ∧ (searchN o N k low high b a).2.2 = a + j ∧ low ≤ (searchN o N k low high b a).2.1 ∧ (searchN o N k low high b a).2.1 < high
  | 0, i, low, high, b, c, a, h, hl, _ => ⟨0, Nat.zero_le _, h, rfl, Nat.le_refl _, hl⟩
  | k + 1, i, low, high, b, c, a, h, hl, hi => by
    by_cases h1 : high - low ≤ 1
    · rw [searchN_end h1]; exact ⟨0, Nat.zero_le _, h, rfl, Nat.le_refl _, hl⟩
    · cases i with
      | zero => exact absurd hi h1
      | succ i =>
        rw [p2] at hi
        obtain ⟨j, j1, j2, j3, -⟩ := seenN_run o (((low + high) / 2 : Nat) : Int) N a h
        rcases hs : seenN o (((low + high) / 2 : Nat) : Int) N b a with ⟨x, p, n⟩
        rw [hs] at j2 j3
        simp only at j2 j3
        subst j3
        cases p with
        | true =>
          rw [searchN_yes h1 hs]
          obtain ⟨t, t1, t2, t3, t4, t5⟩ := searchN_run o N k (i := i) (low := (low + high) / 2) (high := high) (a + j) j2 (by omega) (by omega)
          exact ⟨j + t, by rw [Nat.succ_mul]; omega, by rw [← Nat.add_assoc]; exact t2, by omega, by omega, t5⟩
        | false =>
          rw [searchN_no h1 hs]
          obtain ⟨t, t1, t2, t3, t4, t5⟩ := searchN_run o N k (i := i) (low := low) (high := (low + high) / 2) (a + j) j2 (by omega) (by omega)
          exact ⟨j + t, by rw [Nat.succ_mul]; omega, by rw [← Nat.add_assoc]; exact t2, by omega, t4, by omega⟩
/-- a trace at work: the box, the partition, who was named, how many queries there were -/
structure Ts where
  b : Bo
  l : List (Int × Int)
  nm : List Int
  a : Nat
def Ts.o (t : Ts) : List Bool := opens t.b t.l t.l.length
/-- a round: the trace after it, and whether it ends (1: the box is not seen to play, 2: it is not any more) -/
def roundN (N : Nat) (t : Ts) : Ts × Nat :=
  match seenN t.o 0 N t.b t.a with
  | (b1, false, a1) => (⟨b1, t.l, t.nm, a1⟩, 1)
  | (b1, true, a1) =>
    match searchN t.o N t.o.length 0 t.o.length b1 a1 with
    | (b2, low, a2) =>
      match seenN t.o 0 N b2 a2 with
      | (b3, false, a3) => (⟨b3, t.l, t.nm, a3⟩, 2)
      | (b3, true, a3) => (⟨b3, taken t.b.s t.l low, takenM t.b.s t.l t.nm low, a3⟩, 0)
theorem round_1 {N : Nat} {t : Ts} {b1 : Bo} {a1 : Nat} (h : seenN t.o 0 N t.b t.a = (b1, false, a1)) : roundN N t = (⟨b1, t.l, t.nm, a1⟩, 1) := by rw [roundN, h]
theorem round_2 {N : Nat} {t : Ts} {b1 b2 b3 : Bo} {a1 a2 a3 low : Nat} (h : seenN t.o 0 N t.b t.a = (b1, true, a1)) (h2 : searchN t.o N t.o.length 0 t.o.length b1 a1 = (b2, low, a2)) (h3 : seenN t.o 0 N b2 a2 = (b3, false, a3)) : roundN N t = (⟨b3, t.l, t.nm, a3⟩, 2) := by rw [roundN, h]; simp only [h2, h3]
theorem round_0 {N : Nat} {t : Ts} {b1 b2 b3 : Bo} {a1 a2 a3 low : Nat} (h : seenN t.o 0 N t.b t.a = (b1, true, a1)) (h2 : searchN t.o N t.o.length 0 t.o.length b1 a1 = (b2, low, a2)) (h3 : seenN t.o 0 N b2 a2 = (b3, true, a3)) : roundN N t = (⟨b3, taken t.b.s t.l low, takenM t.b.s t.l t.nm low, a3⟩, 0) := by rw [roundN, h]; simp only [h2, h3]
def tracedN (N : Nat) : Nat → Ts → Ts × Nat
  | 0, t => (t, 0)
  | k + 1, t => match roundN N t with
    | (t', 0) => tracedN N k t'
    | r => r
def Ts.pot (t : Ts) : Nat := Tr.pot t.b.s t.l
/-- the trace from here on -/
def traced (N : Nat) (t : Ts) : Ts × Nat := tracedN N (t.pot + 1) t
/-- what holds of a trace at work that began with a box and these members -/
structure Tin (N : Nat) (b0 : Bo) (tot : List Int) (t : Ts) : Prop where
  ask : Askd b0 t.b t.a
  part : Part b0.s tot t.l t.nm
  fit : t.a + (t.pot + 1) * ((b0.s.d.toNat + 2) * N) ≤ (2 * p2 b0.s.d.toNat + 1) * ((b0.s.d.toNat + 2) * N)
theorem len_le {s : Sc} {tot nm : List Int} {l : List (Int × Int)} (hs : schB s = true) (ht : tot.Nodup) (k : Part s tot l nm) : (allm s l).length ≤ p2 s.d.toNat ∧ l.length ≤ p2 s.d.toNat := by
  have h1 : (allm s l).Nodup := (List.nodup_append.1 ((k.perm.nodup_iff).2 ht)).1
  have h2 : (allm s l).length ≤ p2 s.d.toNat := by
    have := List.Nodup.length_le_of_subset (l₂ := (List.range (p2 s.d.toNat)).map fun u : Nat => (u : Int)) h1 fun x hx => by
      have := all_lt hx
      exact List.mem_map.2 ⟨x.toNat, List.mem_range.2 (by omega), by omega⟩
    simpa using this
  exact ⟨h2, Nat.le_trans (allm_ge hs k.sub) h2⟩
theorem opens_length (t : Ts) : t.o.length = t.l.length := opens_len _ _ _
/-- what a round does -/
theorem Tin.round {N : Nat} {b0 : Bo} {tot : List Int} {t : Ts} (hs : schB b0.s = true) (ht : tot.Nodup) (hr : ∀ x ∈ tot, 0 ≤ x ∧ x < 64) (k : Tin N b0 tot t) :
    ((roundN N t).2 = 0 → Tin N b0 tot (roundN N t).1 ∧ (roundN N t).1.pot < t.pot) ∧ Askd b0 (roundN N t).1.b (roundN N t).1.a ∧ (roundN N t).1.a ≤ (2 * p2 b0.s.d.toNat + 1) * ((b0.s.d.toNat + 2) * N) ∧ Part b0.s tot (roundN N t).1.l (roundN N t).1.nm := by
  obtain ⟨hl1, hl2⟩ := len_le hs ht k.part
  have hfit := k.fit
  rw [Nat.succ_mul] at hfit
  have hk : (b0.s.d.toNat + 2) * N = b0.s.d.toNat * N + 2 * N := Nat.add_mul _ _ _
  obtain ⟨j, j1, j2, j3, -⟩ := seenN_run t.o 0 N t.a k.ask
  rcases hs1 : seenN t.o 0 N t.b t.a with ⟨b1, p1, a1⟩
  rw [hs1] at j2 j3
  simp only at j2 j3
  subst j3
  cases p1 with
  | false =>
    rw [round_1 hs1]
    exact ⟨fun h => absurd h (show ¬ (1 : Nat) = 0 by decide), j2, by simp only; omega, k.part⟩
  | true =>
    have hpos : 0 < t.o.length := seenN_pos (k := N) (b := t.b) (n := t.a) (f := 0) (by rw [hs1])
    obtain ⟨q, q1, q2, q3, q4, q5⟩ := searchN_run t.o N t.o.length (i := b0.s.d.toNat) (low := 0) (high := t.o.length) (t.a + j) j2 hpos (by rw [opens_length]; omega)
    rcases hs2 : searchN t.o N t.o.length 0 t.o.length b1 (t.a + j) with ⟨b2, low, a2⟩
    rw [hs2] at q2 q3 q4 q5
    simp only at q2 q3 q4 q5
    subst q3
    obtain ⟨i, i1, i2, i3, -⟩ := seenN_run t.o 0 N (t.a + j + q) q2
    rcases hs3 : seenN t.o 0 N b2 (t.a + j + q) with ⟨b3, p3, a3⟩
    rw [hs3] at i2 i3
    simp only at i2 i3
    subst i3
    cases p3 with
    | false =>
      rw [round_2 hs1 hs2 hs3]
      exact ⟨fun h => absurd h (show ¬ (2 : Nat) = 0 by decide), i2, by simp only; omega, k.part⟩
    | true =>
      rw [round_0 hs1 hs2 hs3]
      obtain ⟨c1, c2, -⟩ := k.part.step hs ht hr (i := low) (by rw [← opens_length]; exact q5)
      have es := k.ask.s
      rw [es]
      refine ⟨fun _ => ⟨⟨i2, c1, ?_⟩, ?_⟩, i2, by simp only; omega, c1⟩
      · simp only [Ts.pot, i2.s]
        simp only [Ts.pot, es] at hfit
        have := Nat.mul_le_mul_right ((b0.s.d.toNat + 2) * N) (show Tr.pot b0.s (taken b0.s t.l low) + 1 ≤ Tr.pot b0.s t.l by omega)
        omega
      · simp only [Ts.pot, i2.s, es]; exact c2
theorem tracedN_0 {N k : Nat} {t : Ts} (h : (roundN N t).2 = 0) : tracedN N (k + 1) t = tracedN N k (roundN N t).1 := by
  rcases hr : roundN N t with ⟨t', e⟩
  rw [hr] at h
  simp only at h
  subst h
  rw [tracedN, hr]
  rfl
theorem tracedN_e {N k : Nat} {t : Ts} (h : (roundN N t).2 ≠ 0) : tracedN N (k + 1) t = roundN N t := by
  rcases hr : roundN N t with ⟨t', e⟩
  rw [hr] at h
  rw [tracedN, hr]
  match e, h with
  | e + 1, _ => rfl
theorem tracedN_fuel {N : Nat} {b0 : Bo} {tot : List Int} (hs : schB b0.s = true) (ht : tot.Nodup) (hr : ∀ x ∈ tot, 0 ≤ x ∧ x < 64) : ∀ {k j : Nat} {t : Ts}, Tin N b0 tot t → t.pot < k → t.pot < j → tracedN N k t = tracedN N j t
  | 0, j, t, _, h, _ => by omega
  | k + 1, 0, t, _, _, h => by omega
  | k + 1, j + 1, t, hi, h1, h2 => by
    by_cases h : (roundN N t).2 = 0
    · obtain ⟨h3, h4⟩ := (hi.round hs ht hr).1 h
      rw [tracedN_0 h, tracedN_0 h]
      exact tracedN_fuel hs ht hr h3 (by omega) (by omega)
    · rw [tracedN_e h, tracedN_e h]
theorem traced_0 {N : Nat} {b0 : Bo} {tot : List Int} {t : Ts} (hs : schB b0.s = true) (ht : tot.Nodup) (hr : ∀ x ∈ tot, 0 ≤ x ∧ x < 64) (hi : Tin N b0 tot t) (h : (roundN N t).2 = 0) : traced N t = traced N (roundN N t).1 := by
  obtain ⟨h3, h4⟩ := (hi.round hs ht hr).1 h
  rw [traced, traced, tracedN_0 h]
  exact tracedN_fuel hs ht hr h3 (by omega) (by omega)
theorem traced_e {N : Nat} {t : Ts} (h : (roundN N t).2 ≠ 0) : traced N t = roundN N t := tracedN_e h
/-- the error of a partition -/
def partsE (s : Sc) (l : List (Int × Int)) : Int := if chk s ≠ 0 then chk s else if subsE s l ≠ 0 then subsE s l else if (allm s l).Nodup then 0 else 81
theorem parts_s {s : Sc} {l : List (Int × Int)} (h : chk s ≠ 0) : partsE s l = chk s := if_pos h
theorem parts_l {s : Sc} {l : List (Int × Int)} (h : ¬ chk s ≠ 0) (h2 : subsE s l ≠ 0) : partsE s l = subsE s l := by rw [partsE, if_neg h, if_pos h2]
theorem parts_n {s : Sc} {l : List (Int × Int)} (h : ¬ chk s ≠ 0) (h2 : ¬ subsE s l ≠ 0) (h3 : ¬ (allm s l).Nodup) : partsE s l = 81 := by rw [partsE, if_neg h, if_neg h2, if_neg h3]
theorem parts_y {s : Sc} {l : List (Int × Int)} (h : ¬ chk s ≠ 0) (h2 : ¬ subsE s l ≠ 0) (h3 : (allm s l).Nodup) : partsE s l = 0 := by rw [partsE, if_neg h, if_neg h2, if_pos h3]
theorem parts_ok {s : Sc} {l : List (Int × Int)} (h : ¬ partsE s l ≠ 0) : schB s = true ∧ subsE s l = 0 ∧ (allm s l).Nodup := by
  by_cases h1 : chk s ≠ 0
  · rw [parts_s h1] at h; exact absurd h1 h
  · by_cases h2 : subsE s l ≠ 0
    · rw [parts_l h1 h2] at h; exact absurd h2 h
    · by_cases h3 : (allm s l).Nodup
      · exact ⟨chk_zero h1, by omega, h3⟩
      · rw [parts_n h1 h2 h3] at h; exact absurd (by decide) h
/-- the error of a trace, and what it finds -/
def traceE (b : Bo) (l : List (Int × Int)) (noise : Int) : Int :=
  if chkB b ≠ 0 then chkB b else if partsE b.s l ≠ 0 then partsE b.s l else if ¬ (0 ≤ noise ∧ noise ≤ 8) then 2 else if 100000 < b.a + lim b.s.d noise then 9 else 0
def traceT (b : Bo) (l : List (Int × Int)) (noise : Int) : Ts × Nat := if traceE b l noise = 0 then traced (2 * noise.toNat + 1) ⟨b, l, [], 0⟩ else (⟨noBo, [], [], 0⟩, 0)
theorem trE_b {b : Bo} {l : List (Int × Int)} {n : Int} (h : chkB b ≠ 0) : traceE b l n = chkB b := if_pos h
theorem trE_p {b : Bo} {l : List (Int × Int)} {n : Int} (h : ¬ chkB b ≠ 0) (h2 : partsE b.s l ≠ 0) : traceE b l n = partsE b.s l := by rw [traceE, if_neg h, if_pos h2]
theorem trE_n {b : Bo} {l : List (Int × Int)} {n : Int} (h : ¬ chkB b ≠ 0) (h2 : ¬ partsE b.s l ≠ 0) (h3 : ¬ (0 ≤ n ∧ n ≤ 8)) : traceE b l n = 2 := by rw [traceE, if_neg h, if_neg h2, if_pos h3]
theorem trE_f {b : Bo} {l : List (Int × Int)} {n : Int} (h : ¬ chkB b ≠ 0) (h2 : ¬ partsE b.s l ≠ 0) (h3 : 0 ≤ n ∧ n ≤ 8) (h4 : 100000 < b.a + lim b.s.d n) : traceE b l n = 9 := by rw [traceE, if_neg h, if_neg h2, if_neg (by simpa using h3), if_pos h4]
theorem trE_0 {b : Bo} {l : List (Int × Int)} {n : Int} (h : ¬ chkB b ≠ 0) (h2 : ¬ partsE b.s l ≠ 0) (h3 : 0 ≤ n ∧ n ≤ 8) (h4 : ¬ 100000 < b.a + lim b.s.d n) : traceE b l n = 0 := by rw [traceE, if_neg h, if_neg h2, if_neg (by simpa using h3), if_neg h4]
theorem lim_nat {d n : Int} (h0 : 0 ≤ d) (n0 : 0 ≤ n) : lim d n = (((2 * p2 d.toNat + 1) * ((d.toNat + 2) * (2 * n.toNat + 1)) : Nat) : Int) := by
  obtain ⟨d', rfl⟩ : ∃ k : Nat, d = k := ⟨d.toNat, by omega⟩
  obtain ⟨n', rfl⟩ : ∃ k : Nat, n = k := ⟨n.toNat, by omega⟩
  rw [lim, Int.toNat_natCast, Int.toNat_natCast, ← Nat.mul_assoc]
  push_cast
  rfl
theorem Tin.first {b : Bo} {l : List (Int × Int)} {N : Nat} (hs : schB b.s = true) (h0 : 0 ≤ b.x) (h1 : b.x ≤ b.a) (hl : ∀ i, i < l.length → subB b.s (qn l i) (qm l i) = true) (hn : (allm b.s l).Nodup) : Tin N b (allm b.s l) ⟨b, l, [], 0⟩ := by
  have hp : Part b.s (allm b.s l) l [] := ⟨fun x hx => by
    obtain ⟨i, hi, e⟩ := q_mem.1 hx
    rw [e]; exact hl i hi, by rw [List.append_nil]⟩
  refine ⟨Askd.refl h0 h1, hp, ?_⟩
  obtain ⟨h2, h3⟩ := len_le hs hn hp
  simp only [Nat.zero_add]
  exact Nat.mul_le_mul_right _ (by simp only [Ts.pot, pot]; omega)
end Go.Proofs.YtoegpalacppllaaGreat.Tr

/- Partitions: receivers that are in two subsets; lists in which neighbours are equal. No program is in sight here. -/
namespace Go.Proofs.YtoegpalacppllaaGreat.Tr
open Hn

/-- a list in order is made shorter just if it has something twice -/
theorem compact_lt {l : List Int} (hs : l.Pairwise (fun x y => x ≤ y)) : (Lib.compact l).length < l.length ↔ ¬ l.Nodup := by
  constructor
  · intro h hn
    rw [Lib.compact_all l fun j hj => ?_] at h
    · omega
    · cases j with
      | zero => exact Lib.keeps_lt_one _ 0 (by omega)
      | succ j =>
        refine Lib.keeps_pos ?_
        have h2 := List.pairwise_iff_getElem.1 hn j (j + 1) (by omega) hj (by omega)
        simp only [Nat.add_sub_cancel]
        rw [getElem!_pos _ (j + 1) (by simpa using hj), getElem!_pos _ j (by simp; omega)]
        simpa using h2.symm
  · intro hn
    have hle := Lib.compact_length_le l
    apply Classical.byContradiction
    intro hlt
    have he : (Lib.compact l).length = l.length := by omega
    apply hn
    unfold Lib.compact Lib.compactUpTo at he
    rw [List.length_map] at he
    have hall : ∀ j ∈ List.range l.length, Lib.keeps l.toArray j = true := List.length_filter_eq_length_iff.1 (by rw [he, List.length_range])
    refine List.pairwise_iff_getElem.2 fun i j hi hj hij => ?_
    have h1 := hall j (List.mem_range.2 hj)
    rw [Lib.keeps, decide_eq_true_eq] at h1
    have h2 := h1.resolve_left (by omega)
    rw [getElem!_pos _ j (by simpa using hj), getElem!_pos _ (j - 1) (by simp; omega)] at h2
    have h3 : l[i] ≤ l[j - 1] := by
      rcases Nat.lt_or_ge i (j - 1) with h | h
      · exact List.pairwise_iff_getElem.1 hs i (j - 1) hi (by omega) h
      · obtain rfl : i = j - 1 := by omega
        exact Int.le_refl _
    have h4 : l[j - 1] ≤ l[j] := List.pairwise_iff_getElem.1 hs (j - 1) j (by omega) hj (by omega)
    simp only [List.getElem_toArray] at h2
    omega
theorem compact_sort {l : List Int} : (Lib.compact (sortI l)).length < l.length ↔ ¬ l.Nodup := by
  have := compact_lt (sortI_le l)
  rw [sortI_len] at this
  rw [this, (sortI_perm l).nodup_iff]
end Go.Proofs.YtoegpalacppllaaGreat.Tr

/- Making numbers in memory of one's own shorter; copies of lists of subsets. No function of the program is in sight here. -/
namespace Go.Proofs.YtoegpalacppllaaGreat
open Go.RowKit Go.Sort Pl Tr Hn

/-- what slices.Compact does -/
structure CompI (P : Program) (f : FuncId) : Prop where
  some : ∀ (blk off cap : Nat) (zs : List Int) (w : World), Holds (Value.int .i64) w blk off zs.toArray → zs.length ≤ 9223372036854775807 → zs.length ≤ cap →
    Calls P f #[.slice (some ⟨blk, off, none⟩) zs.length cap] w fun e w' => e = .returned (.slice (some ⟨blk, off, none⟩) (Lib.compact zs).length cap) ∧ ∃ q, w' = putRow (Value.int .i64) (Sort.ahead w q) blk off (Lib.compact zs ++ List.replicate (zs.length - (Lib.compact zs).length) 0).toArray
  none : ∀ (a : Option Addr) (cap : Nat) (w : World), Calls P f #[.slice a 0 cap] w fun e w' => e = .returned (.slice a 0 cap) ∧ w' = w
theorem compact_nil : Lib.compact ([] : List Int) = [] := List.eq_nil_of_length_eq_zero (Nat.le_zero.1 (Lib.compact_length_le []))

section
variable {P : Program} {ops : Array Oper} {Q : Exit → Act → World → Prop} {bs : List Value} {us : List (Nat × Value)} {ds : List Deferred} {w0 : Base} {W W' : World} {rest : List Oper} {o : Oper} {L Bs : List Blk} {d : Nat} {v : Value} {r : Option (Option Nat)} {m : Nat}
theorem grownBy_put {w : World} {g n k : Nat} (d : Array Int) : w.grownBy (putRow (Value.int .i64) (Sort.ahead w n) g k d) (some g) := by
  refine ⟨rfl, rfl, rfl, by simp [putRow, mapBlock, Sort.ahead], fun j hj hne => ?_⟩
  have : g ≠ j := fun e => hne (by rw [e])
  simp [putRow, mapBlock, Sort.ahead, Array.getElem?_modify, this]
theorem heap_put {w : World} {g n k : Nat} {cur : Array Value} {e : TypeId} {fr : Nat × Nat} (d : Array Int) (hb : w.heap[g]? = some (.cells cur e fr)) :
    (putRow (Value.int .i64) (Sort.ahead w n) g k d).heap[g]? = some (.cells (putCells (Value.int .i64) k d cur) e fr) := by
  simp [putRow, mapBlock, Sort.ahead, Array.getElem?_modify, hb, onCells]
theorem compact_own {f : FuncId} (hC : CompI P f) {s : Sl} {l : List Int} (hN : NewI s l Bs) (hW : Cl w0 (L ++ Bs) W) (hl : l.length ≤ 4294967296) :
    Calls P f #[s.v] W fun e' w' => e' = .returned (.slice s.a (Lib.compact l).length s.c) ∧ Cl w0 L w' := by
  have hr := hN.rep.at hW (List.sublist_append_right L Bs)
  have hn := hN.n
  obtain ⟨a, n, c⟩ := s
  simp only at hn
  subst hn
  by_cases h0 : l.length = 0
  · obtain rfl : l = [] := List.eq_nil_of_length_eq_zero h0
    refine (hC.none a c W).mono ?_
    rintro e' w' ⟨rfl, rfl⟩
    rw [compact_nil]
    exact ⟨rfl, hW.sub (List.sublist_append_left L Bs)⟩
  · rcases hN.mem with h1 | ⟨x, hx, i, ha, hi⟩
    · exact absurd h1 h0
    · obtain ⟨b, k, hb, hc⟩ := hr.ptr (by omega)
      simp only at ha hb hi
      subst ha
      simp only [Option.some.injEq, Addr.mk.injEq, and_true] at hb
      obtain ⟨rfl, rfl⟩ := hb
      have hg : W.heap[x.id]? = some (.cells x.cs.toArray x.ty (0, 0)) := hW.holds x (List.mem_append_right _ hx)
      have hH : Holds (Value.int .i64) W x.id i l.toArray := by
        intro j hj
        have hj' : j < l.length := by simpa using hj
        refine ⟨?_, by simp [World.frozen?, hg]⟩
        rw [hc j hj']
        simp [hj']
      refine (hC.some x.id i c l W hH (by omega) hr.cap).mono ?_
      rintro e' w' ⟨rfl, q, rfl⟩
      obtain ⟨A, B, rfl⟩ := List.append_of_mem hx
      have hW1 : Cl w0 (⟨x.id, x.cs, x.ty⟩ :: L) W := by
        have hp : (L ++ (A ++ x :: B)).Perm ((x :: L) ++ (A ++ B)) := by
          refine (List.perm_middle (a := x) (l₁ := L ++ A) (l₂ := B) |>.symm.symm |> fun h => ?_)
          rw [← List.append_assoc]
          refine h.trans ?_
          rw [List.cons_append, List.append_assoc]
        exact (hW.perm hp).sub (List.sublist_append_left _ _)
      refine ⟨rfl, (Cl.regrown (cs := (putCells (Value.int .i64) i (Lib.compact l ++ List.replicate (l.length - (Lib.compact l).length) 0).toArray x.cs.toArray).toList) hW1 (grownBy_put (n := q) (k := i) _) (by simpa using heap_put (n := q) (k := i) _ hg)).drop 1⟩
theorem l_compact {f : FuncId} (hC : CompI P f) {s : Sl} {l : List Int} {x : Operand} {ts : Array TypeId} (hN : NewI s l Bs) (hW : Cl w0 (L ++ Bs) W) (hl : l.length ≤ 4294967296) (he : Enters P f) (hg : o.guard = none) (ho : o.op = .call { callee := .value (.func f), args := #[x], argTypes := ts }) (hx : ev bs us x = s.v) (hd : o.dst = some d)
    (h : ∀ W', Cl w0 L W' → LW r m P ops Q rest (fr bs ((d, .slice s.a (Lib.compact l).length s.c) :: us) ds) W') : LW r m P ops Q (o :: rest) (fr bs us ds) W :=
  LW.call (wanted_none hg) (by rw [eval_ev]; exact run_call (args := [s.v]) he ho (by simp [hx]) W) ((compact_own hC hN hW hl).mono fun _ w ⟨he, hc⟩ => ⟨_, he, by show LW r m P ops Q rest ((fr bs us ds).put o.dst _) w; rw [hd, put_st]; exact h w hc⟩)
/-- subsets in memory of one's own -/
theorem OwnSl.repB {e : TypeId} {a : Option Addr} {n c : Nat} {l : List (Int × Int)} {Bs : List Blk} (hO : OwnSl e 2 a n c (sl2 l) Bs) : Rep Bs fun W => RdB W ⟨a, n, c⟩ l := fun b W hW => by
  have hn : n = l.length := by have := hO.1; rw [sl2_len] at this; omega
  refine ⟨⟨?_, fun h => (hO.nilOf h).2⟩, hn, OwnSl.rdS (L := []) hO (by simpa using hW)⟩
  rcases hO.2 with ⟨_, h1, h2, _⟩ | ⟨g, cur, _, _, h1, _⟩
  · simp [h1]
  · exact h1
theorem sl2_drop : ∀ (l : List (Int × Int)) (i : Nat), (sl2 l).drop (i * 2) = sl2 (l.drop i)
  | l, 0 => by simp
  | [], i + 1 => by simp [sl2]
  | x :: l, i + 1 => by rw [show (i + 1) * 2 = i * 2 + 1 + 1 by omega]; simp [sl2, sl2_drop l i]
theorem sl2_take : ∀ (l : List (Int × Int)) (i : Nat), (sl2 l).take (i * 2) = sl2 (l.take i)
  | l, 0 => by simp [sl2]
  | [], i + 1 => by simp [sl2]
  | x :: l, i + 1 => by rw [show (i + 1) * 2 = i * 2 + 1 + 1 by omega]; simp [sl2, sl2_take l i]
end
end Go.Proofs.YtoegpalacppllaaGreat

/- Splits, by the reference. -/
namespace Go.Proofs.YtoegpalacppllaaGreat
open Go.RowKit Pl
open Tr Hn
theorem split_k1 {s : Sc} {v : Nat} {w : Int} (hk : s.k = 1) : splitV s v w = [(((2 * v : Nat) : Int), 0), (((2 * v + 1 : Nat) : Int), 0)] := by rw [splitV, if_pos hk]; push_cast; rfl
theorem split_w0 {s : Sc} {v : Int} (hk : s.k ≠ 1) : splitV s v 0 = [(1, 2), (1, 3)] := by rw [splitV, if_neg hk, if_pos rfl]
theorem split_s {s : Sc} {v x : Nat} (hk : s.k ≠ 1) (hx : x ≠ 0) (hc : sh x (lev x - lev v - 1) = x) : splitV s v x = [(((sib (sh x (lev x - lev v - 1)) : Nat) : Int), ((2 * sib (sh x (lev x - lev v - 1)) : Nat) : Int)), (((sib (sh x (lev x - lev v - 1)) : Nat) : Int), ((2 * sib (sh x (lev x - lev v - 1)) + 1 : Nat) : Int))] := by
 rw [splitV, if_neg hk, if_neg (by omega), Int.toNat_natCast, Int.toNat_natCast, if_pos hc, hc]; push_cast; rfl
theorem split_c {s : Sc} {v x : Nat} (hk : s.k ≠ 1) (hx : x ≠ 0) (hc : ¬ sh x (lev x - lev v - 1) = x) (h : subB s ((sh x (lev x - lev v - 1) : Nat) : Int) x = true) : splitV s v x = [((v : Int), ((sh x (lev x - lev v - 1) : Nat) : Int)), (((sh x (lev x - lev v - 1) : Nat) : Int), (x : Int))] := by
 rw [splitV, if_neg hk, if_neg (by omega), Int.toNat_natCast, Int.toNat_natCast, if_neg hc, if_pos h]
theorem split_b {s : Sc} {v x : Nat} (hk : s.k ≠ 1) (hx : x ≠ 0) (hc : ¬ sh x (lev x - lev v - 1) = x) (h : subB s ((sh x (lev x - lev v - 1) : Nat) : Int) x = false) : splitV s v x = [((v : Int), ((bet s.d x (lev x - lev v - 1) : Nat) : Int)), (((bet s.d x (lev x - lev v - 1) : Nat) : Int), (x : Int))] := by
 rw [splitV, if_neg hk, if_neg (by omega), Int.toNat_natCast, Int.toNat_natCast, if_neg hc, if_neg (by rw [h]; decide)]
end Go.Proofs.YtoegpalacppllaaGreat

/- Taking a subset out of a partition, step by step; findings in memory. No function of the program is in sight here. -/
namespace Go.Proofs.YtoegpalacppllaaGreat.Tr
open Hn
/-- what is put in a subset's place -/
def midT (s : Sc) (l : List (Int × Int)) (i : Nat) : List (Int × Int) := if (membersN s (qn l i) (qm l i) (p2 s.d.toNat)).length = 1 then [] else splitV s (qn l i) (qm l i)
theorem taken_mid (s : Sc) (l : List (Int × Int)) (i : Nat) : taken s l i = l.take i ++ (midT s l i ++ l.drop (i + 1)) := rfl
theorem mid_one {s : Sc} {l : List (Int × Int)} {i : Nat} (h : (membersN s (qn l i) (qm l i) (p2 s.d.toNat)).length = 1) : midT s l i = [] := if_pos h
theorem mid_two {s : Sc} {l : List (Int × Int)} {i : Nat} (h : (membersN s (qn l i) (qm l i) (p2 s.d.toNat)).length ≠ 1) : midT s l i = splitV s (qn l i) (qm l i) := if_neg h
end Go.Proofs.YtoegpalacppllaaGreat.Tr
namespace Go.Proofs.YtoegpalacppllaaGreat
open Go.RowKit Pl Tr Hn
/-- some of the blocks -/
theorem Cl.pick {b : Base} {W : World} {L L' : List Blk} (R : List Blk) (h : Cl b L W) (hp : L.Perm (L' ++ R)) : Cl b L' W := (h.perm hp).sub (List.sublist_append_left L' R)
/-- a finding, as cells -/
abbrev fiC (n l : Sl) (a : Nat) (e : Nat) : List Value := [.slice n.a n.n n.c, .slice l.a l.n l.c, .int .i64 (a : Int), .int .u8 (e : Int)]
/-- what follows the box in a tracer -/
abbrev trR (nn : Nat) (n l : Sl) (a e : Nat) : List Value := [.int .i64 (nn : Int), .slice n.a n.n n.c, .slice l.a l.n l.c, .int .i64 (a : Int), .int .u8 (e : Int)]
theorem trR_len {b : Bo} {t : Sl} {nn : Nat} {n l : Sl} {a e k : Nat} (h : k < 33) : k < (boC b t ++ trR nn n l a e).length := by rw [List.length_append, boC_len]; exact h
end Go.Proofs.YtoegpalacppllaaGreat

/- A trace at work, in memory; results of two structs; copies of lists of subsets. No function of the program is in sight here. -/
namespace Go.Proofs.YtoegpalacppllaaGreat
open Go.RowKit Pl Tr Hn
/-- a trace at work, and where it stands: the coalition, who was named, the partition -/
structure TrS where
  t : Ts
  tb : Sl
  bb : List Blk
  n2 : Sl
  bn : List Blk
  la : Option Addr
  lc : Nat
  bl : List Blk
/-- a finding and a box in new memory -/
def foundX (e : TypeId) (R : Ts × Nat) (fv bv : List Value) (Bs : List Blk) : Prop := ∃ (n2 : Sl) (la : Option Addr) (lc : Nat) (s2 : Sl) (BN BL BB : List Blk), fv = fiC n2 ⟨la, R.1.l.length, lc⟩ R.1.a R.2 ∧ bv = boC R.1.b s2 ∧ Bs = (BN ++ BL) ++ BB ∧ NewI n2 R.1.nm BN ∧ OwnSl e 2 la R.1.l.length lc (sl2 R.1.l) BL ∧ NewI s2 R.1.b.l BB
theorem found_no (e : TypeId) : foundX e (⟨noBo, [], [], 0⟩, 0) (fiC Sl.no ⟨none, 0, 0⟩ 0 0) (boC noBo Sl.no) [] := ⟨Sl.no, none, 0, Sl.no, [], [], [], rfl, rfl, rfl, NewI.no, OwnSl.nil e 2, NewI.no⟩
section
variable {P : Program} {ops : Array Oper} {Q : Exit → Act → World → Prop} {bs : List Value} {us : List (Nat × Value)} {ds : List Deferred} {w0 : Base} {W W' : World} {rest : List Oper} {o : Oper} {L Bs : List Blk} {d : Nat} {v : Value} {r : Option (Option Nat)} {m : Nat} {fn : Func} {R' : Ending → World → Prop}
theorem ret_cell2_tmp {p1 p2 q : Tmp} {t1 t2 : TypeId} {n1 n2 : Nat} {g1 g2 : Nat} {cs1 cs2 : List Value} {y1 y2 : TypeId} (hW : Cl w0 L W) (q1 q2 : Nat) (ht1 : TyA P t1 n1) (ht2 : TyA P t2 n2) (hr : fn.results = #[.cell p1 t1, .cell p2 t2, .tmp q])
    (hp1 : look bs us p1 = .pointer (some ⟨g1, 0, none⟩)) (hp2 : look bs us p2 = .pointer (some ⟨g2, 0, none⟩)) (hL1 : L[q1]? = some ⟨g1, cs1, y1⟩) (hL2 : L[q2]? = some ⟨g2, cs2, y2⟩) (hn1 : cs1.length = n1) (hn2 : cs2.length = n2) (hv : look bs us q = v)
    (h : R' (.returned (.tuple #[.agg cs1.toArray, .agg cs2.toArray, v])) W) : bodyPost P fn R' .ret (fr bs us []) W := by
  refine ⟨rfl, _, ?_, h⟩
  have e1 := run_load_agg ht1 W (hW.at q1 hL1) (i := 0) (by simp only; omega)
  have e2 := run_load_agg ht2 W (hW.at q2 hL2) (i := 0) (by simp only; omega)
  have f1 : (toL bs us).toArray.getD p1 undef = .pointer (some ⟨g1, 0, none⟩) := by rw [nth_getD, ← look_nth]; exact hp1
  have f2 : (toL bs us).toArray.getD p2 undef = .pointer (some ⟨g2, 0, none⟩) := by rw [nth_getD, ← look_nth]; exact hp2
  have f3 : (toL bs us).toArray.getD q undef = v := by rw [nth_getD, ← look_nth]; exact hv
  have d1 : (cs1.drop 0).take n1 = cs1 := by simp [← hn1]
  have d2 : (cs2.drop 0).take n2 = cs2 := by simp [← hn2]
  rw [d1] at e1; rw [d2] at e2
  show (results fn (toL bs us).toArray).run P W = _
  rw [Array.getD_eq_getD_getElem?] at f1 f2 f3
  simp at f1 f2 f3
  simp [results, hr, asAddr, f1, f2, f3, e1, e2]
/-- a call of a function value that hands back memory of its own -/
theorem l_callVX (hW : Cl w0 L W) {f : FuncId} {x : Operand} {xs : Array Operand} {ts : Array TypeId} {args cap : List Value} {Pre : World → Prop} {X : Value → List Blk → Prop} (hgv : GivesX P f (args ++ cap).toArray Pre X) (he : Enters P f) (hp : Pre W) (hg : o.guard = none) (ho : o.op = .call { callee := .value x, args := xs, argTypes := ts }) (hx : ev bs us x = .func (.func f) #[] cap.toArray) (ha : xs.toList.map (ev bs us) = args) (hd : o.dst = some d)
    (h : ∀ v Bs W', X v Bs → Cl w0 (L ++ Bs) W' → LW r m P ops Q rest (fr bs ((d, v) :: us) ds) W') : LW r m P ops Q (o :: rest) (fr bs us ds) W :=
  l_enter hg (run_callV he ho hx ha) hd ((hgv W hp).mono fun _ w ⟨v, Bs, he, hx, hc⟩ => ⟨v, he, h v Bs w hx (hW.beside hc)⟩)
/-- subsets that are appended to what is empty -/
theorem twinB {t e bytes : Nat} (hE : TyE P t e 2 bytes) {g : Nat} (hW : Cl w0 (⟨g, [], e⟩ :: L) W) (ty : TypeId) {s : Sl} {l : List (Int × Int)} (hr : RdB W s l) (b1 : l.length ≤ maxLen) (b2 : l.length * bytes ≤ 140737488355328) :
    ∃ a' c' Bs W', (Builtin.append_ #[t, t] ty #[.slice (some ⟨g, 0, none⟩) 0 0, s.v]).run P W = .ok (.slice a' l.length c') W' ∧ OwnSl e 2 a' l.length c' (sl2 l) Bs ∧ Cl w0 (L ++ Bs) W' := by
  have hn := hr.len
  obtain ⟨a, n, c⟩ := s
  simp only at hn
  subst hn
  obtain ⟨a', c', Bs, W', hrun, h, hC⟩ := fresh_append hE hW ty ⟨g, 0, none⟩ hr.rd (n := l.length) (c := c) (by rw [sl2_len]; omega) (fun h => by
    have h1 := hr.ok.nil h
    have h2 := hr.ok.le
    simp only at h1 h2
    omega) b1 b2
  rcases h with ⟨h0, rfl, rfl, rfl⟩ | hO
  · refine ⟨_, _, [⟨g, [], e⟩], W', hrun, ?_, ?_⟩
    · have hl : l = [] := List.eq_nil_of_length_eq_zero h0
      subst hl
      exact OwnSl.full (n := 0) rfl (Nat.zero_le _)
    · rw [List.append_nil] at hC
      exact hC.perm (List.perm_append_singleton _ _).symm
  · exact ⟨a', c', Bs, W', hrun, hO, (show Cl w0 (_ :: (L ++ Bs)) W' from hC).drop 1⟩
theorem l_twinB {t e bytes : Nat} (hE : TyE P t e 2 bytes) {g : Nat} (hW : Cl w0 (⟨g, [], e⟩ :: L) W) {s : Sl} {l : List (Int × Int)} {x y : Operand} (hr : RdB W s l) (b1 : l.length ≤ maxLen) (b2 : l.length * bytes ≤ 140737488355328) (hg : o.guard = none) (ho : o.op = .call { callee := .builtin .append, args := #[y, x], argTypes := #[t, t] }) (hy : ev bs us y = .slice (some ⟨g, 0, none⟩) 0 0) (hx : ev bs us x = s.v) (hd : o.dst = some d)
    (h : ∀ a' c' Bs W', OwnSl e 2 a' l.length c' (sl2 l) Bs → Cl w0 (L ++ Bs) W' → LW r m P ops Q rest (fr bs ((d, .slice a' l.length c') :: us) ds) W') : LW r m P ops Q (o :: rest) (fr bs us ds) W := by
  obtain ⟨a', c', Bs, W', hrun, hO, hC⟩ := twinB hE hW o.type hr b1 b2
  exact l_run hg (run_append_op ho hy hx hrun) hd (h a' c' Bs W' hO hC)
end
end Go.Proofs.YtoegpalacppllaaGreat

/- A region that draws its order, with a chain of quiet operations that may come at any time beside the rest. No function of the program is in sight here. -/
namespace Go.Proofs.YtoegpalacppllaaGreat
open Go.RowKit

theorem at_app {α : Type} {B L : List α} {p : Nat} {x : α} (h : L[p]? = some x) : (B ++ L)[B.length + p]? = some x := by
  rw [List.getElem?_append_right (Nat.le_add_right _ _), Nat.add_sub_cancel_left]; exact h
/-- a quiet operation: its place, itself, its value -/
abbrev Zl := List (Nat × Oper × Value)
def zput (a : Act) : Zl → Act
  | [] => a
  | x :: l => zput (a.put x.2.1.dst x.2.2) l
def zset (done : Array Bool) : Zl → Array Bool
  | [] => done
  | x :: l => zset (done.setIfInBounds x.1 true) l
def ZokL (P : Program) (w0 : Base) (S : List Nat) (L0 : List Blk) : Act → Zl → Prop
  | _, [] => True
  | a, x :: l => Zok P w0 S L0 a x.2.1 x.2.2 ∧ ZokL P w0 S L0 (a.put x.2.1.dst x.2.2) l
/-- each waits for the one ahead of it, and for no other -/
def zchain (md : Region.Mode) : List Nat → Zl → Prop
  | _, [] => True
  | pre, x :: l => (∀ e ∈ x.2.1.after, Region.binds md e = true → e.on ∈ pre) ∧ (∀ y ∈ l, ∃ e ∈ y.2.1.after, Region.binds md e = true ∧ (e.on = x.1 ∨ e.on ∈ l.map (·.1))) ∧ zchain md (x.1 :: pre) l
structure Zed1 (ops : Array Oper) (ms : List Mk) (ix : List Nat) (kd : Nat → Kd) (zs : List Nat) (z : Nat) (oz : Oper) : Prop where
  at_ : ops[z]? = some oz
  guard : oz.guard = none
  apart : ∀ (j : Nat) oj, ops[j]? = some oj → j ∉ zs → (kd j).isTail = false → oz.apart ops oj = true
  ds : ∀ k ∈ ms, k.d ∉ oz.looksAt ops ∧ oz.dst ≠ some k.d
  ix : ∀ i ∈ ix, i ≠ z

section
variable {P : Program} {ops : Array Oper} {Q : Exit → Act → World → Prop} {a : Act} {w0 : Base} {W : World} {L : List Blk} {md : Region.Mode} {S : List Nat} {r : Option (Option Nat)} {m : Nat} {ms : List Mk} {bs : List Value} {us : List (Nat × Value)} {ds : List Deferred}

theorem zset_ne : ∀ (l : Zl) {done : Array Bool} {i : Nat} (b : Bool), (∀ x ∈ l, x.1 ≠ i) → (zset done l).getD i b = done.getD i b
  | [], _, _, _, _ => rfl
  | x :: l, done, i, b, h => by
    rw [zset, zset_ne l b fun y hy => h y (by simp [hy]), getD_set_ne b (h x (by simp))]
theorem zset_set : ∀ (l : Zl) {done : Array Bool} {i : Nat}, (∀ x ∈ l, x.1 ≠ i) → (zset done l).setIfInBounds i true = zset (done.setIfInBounds i true) l
  | [], _, _, _ => rfl
  | x :: l, done, i, h => by
    rw [zset, zset_set l fun y hy => h y (by simp [hy]), zset, Array.setIfInBounds_comm _ _ (h x (by simp))]
theorem zset_mono : ∀ (l : Zl) {done : Array Bool} {i : Nat}, done.getD i false = true → (zset done l).getD i false = true
  | [], _, _, h => h
  | x :: l, done, i, h => by
    refine zset_mono l ?_
    by_cases hx : x.1 = i
    · subst hx
      have := getD_true_lt h
      simp [this]
    · rw [getD_set_ne false hx]; exact h
theorem zready : ∀ (l : Zl) {done : Array Bool} {i : Nat}, i ∈ Region.ready md ops done → (∀ x ∈ l, x.1 ≠ i) → i ∈ Region.ready md ops (zset done l) := fun l done i hi hne => by
  obtain ⟨hd, oi, ho, hall⟩ := mem_ready.1 hi
  exact mem_ready.2 ⟨by rw [zset_ne l true hne]; exact hd, oi, ho, fun e he hb => zset_mono l (hall e he hb)⟩
theorem ZokL.putK {L0 : List Blk} {k : Kd} {dst : Option Tmp} {v : Value} : ∀ (l : Zl) (a : Act), (∀ x ∈ l, (∀ cs b, x.2.1.op ≠ .select cs b) ∧ (∀ d, dst = some d → d ∉ x.2.1.looksAt ops) ∧ (∀ d, x.2.1.dst = some d → dst ≠ some d)) → ZokL P w0 S L0 a l → ZokL P w0 S L0 (putK k a dst v) l
  | [], _, _, _ => trivial
  | x :: l, a, hx, h => by
    obtain ⟨h1, h2, h3⟩ := hx x (by simp)
    refine ⟨?_, ?_⟩
    · intro L2 w hs hc
      have e : execOp (Go.Proofs.YtoegpalacppllaaGreat.putK k a dst v).eval x.2.1 = execOp a.eval x.2.1 := by
        cases k <;> first | rfl | exact execOp_put x.2.1 h1 a dst v h2
      rw [e]; exact h.1 L2 w hs hc
    · have hc : (Go.Proofs.YtoegpalacppllaaGreat.putK k a dst v).put x.2.1.dst x.2.2 = Go.Proofs.YtoegpalacppllaaGreat.putK k (a.put x.2.1.dst x.2.2) dst v := (putK_comm (a := a) (j := Kd.q) (k := k) (x := x.2.1.dst) (y := dst) x.2.2 v h3).symm
      rw [hc]
      exact ZokL.putK l _ (fun y hy => hx y (by simp [hy])) h.2

theorem anyC_zs {N : Nat} {L0 : List Blk} {kd : Nat → Kd} {ix : List Nat} (hA : AllB md ops ms ix kd) (hsel : ∀ (j : Nat) (o : Oper) cs b, ops[j]? = some o → o.op ≠ .select cs b) : ∀ (zs : Zl) (pre : List Nat) (U : Nat → Array Bool → Act → St → Prop), (∀ x ∈ zs, Zed1 ops ms ix kd (zs.map (·.1) ++ pre) x.1 x.2.1) → zchain md pre zs → (zs.map (·.1)).Nodup →
    (∀ p q, zs = p ++ q → ∀ f done a s vs Ns w, Made ms s.2 vs Ns → (∀ v ∈ vs, v.isSome = true) → Cl w0 (s.1 ++ Ns.flatten) w → a.tmps.size = N → (q ≠ [] → Closed md ops done) → (∀ x ∈ q, done.getD x.1 true = false) → (zs ≠ [] → Sim S L0 s.1 ∧ ZokL P w0 S L0 a zs) → U f (zset done q) a s → AW r m P md ops Q (f + q.length) done (puts (zput a p) ms vs) w) →
    ∀ (f : Nat) (done : Array Bool) (a : Act) (s : St) (vs : List (Option Value)) (Ns : List (List Blk)) (w : World), Sim S L0 s.1 → ZokL P w0 S L0 a zs → Closed md ops done → (∀ x ∈ zs, done.getD x.1 true = false) → (∀ p ∈ pre, done.getD p false = true) → Made ms s.2 vs Ns → (∀ (q i : Nat), ix[q]? = some i → ((∃ v, vs[q]? = some (some v)) ↔ done.getD i false = true)) → (∀ m ∈ ms, m.d < a.tmps.size) → a.tmps.size = N →
      Cl w0 (s.1 ++ Ns.flatten) w → anyC P md ops w0 S ms kd ix (fun _ _ => False) U f (zset done zs) a s → AW r m P md ops Q (f + zs.length) done (puts a ms vs) w := by
  intro zs
  induction zs with
  | nil =>
    intro pre U _ _ _ hT f done a s vs Ns w _ _ _ _ _ hM hrel hsz hN hC h
    exact anyC_any (N := N) hA hsel (R := fun _ _ => False) (U := U) (fun _ _ _ _ _ _ _ _ h => h.elim) (fun f done a s vs Ns w hM hs hC hN hU => hT [] [] rfl f done a s vs Ns w hM hs hC hN (fun h => absurd rfl h) (by simp) (fun h => absurd rfl h) hU) f done a s vs Ns w hM hrel hsz hN hC h
  | cons x l ihl =>
    intro pre U hz hch hnd hT f
    have hzx := hz x (by simp)
    have hnx : ∀ y ∈ l, y.1 ≠ x.1 := fun y hy e => by
      rw [List.map_cons, List.nodup_cons] at hnd
      exact hnd.1 (List.mem_map.2 ⟨y, hy, e⟩)
    have hds : ∀ k ∈ ms, k.d ∉ x.2.1.looksAt ops := fun k hk => (hzx.ds k hk).1
    -- what is asked of an operation of the first layer
    have hside : ∀ {i : Nat} {oi : Oper}, ops[i]? = some oi → i ∉ ((x :: l).map (·.1) ++ pre) → (kd i).isTail = false → ∀ y ∈ x :: l, (∀ cs b, y.2.1.op ≠ .select cs b) ∧ (∀ d, oi.dst = some d → d ∉ y.2.1.looksAt ops) ∧ (∀ d, y.2.1.dst = some d → oi.dst ≠ some d) := fun ho hi ht y hy => by
      obtain ⟨_, h2, h3⟩ := Oper.apart_spec ((hz y hy).apart _ _ ho hi ht)
      exact ⟨fun cs b => hsel y.1 y.2.1 cs b (hz y hy).at_, h3, h2⟩
    have notin : ∀ {done : Array Bool} {i : Nat}, (∀ y ∈ x :: l, done.getD y.1 true = false) → (∀ p ∈ pre, done.getD p false = true) → i ∈ Region.ready md ops (zset done (x :: l)) → i ∉ ((x :: l).map (·.1) ++ pre) := by
      intro done i hd hpre hi hm
      have h1 := (mem_ready.1 hi).1
      have hmm : ∀ (l : Zl) (done : Array Bool) (j : Nat), j ∈ l.map (·.1) → j < done.size → (zset done l).getD j true = true := by
        intro l
        induction l with
        | nil => intro done j h; simp at h
        | cons y l ih =>
          intro done j h hlt
          rcases List.mem_cons.1 h with rfl | h
          · by_cases hy : ∃ u ∈ l, u.1 = y.1
            · obtain ⟨u, hu, e⟩ := hy
              exact ih _ _ (List.mem_map.2 ⟨u, hu, e⟩) (by simpa using hlt)
            · rw [zset, zset_ne l true fun u hu e => hy ⟨u, hu, e⟩]
              simp [hlt]
          · exact ih _ _ h (by simpa using hlt)
      rcases List.mem_append.1 hm with hm | hm
      · obtain ⟨y, hy, rfl⟩ := List.mem_map.1 hm
        rw [hmm (x :: l) done y.1 hm (getD_false_lt (hd y hy))] at h1; cases h1
      · have h2 := zset_mono (x :: l) (hpre i hm)
        have hlt := getD_true_lt h2
        simp only [Array.getD_eq_getD_getElem?, Array.getElem?_eq_getElem hlt, Option.getD_some] at h1 h2
        rw [h1] at h2; cases h2
    have hput : ∀ (f : Nat) (done : Array Bool) (a : Act) (s : St), Sim S L0 s.1 → ZokL P w0 S L0 a (x :: l) → (∀ m ∈ ms, m.d < a.tmps.size) → a.tmps.size = N → (∀ y ∈ x :: l, done.getD y.1 true = false) → (∀ p ∈ pre, done.getD p false = true) → anyC P md ops w0 S ms kd ix (fun _ _ => False) U f (zset done (x :: l)) a s →
        anyC P md ops w0 S ms kd ix (fun _ _ => False) (fun f done a1 s => ∃ a0, a1 = a0.put x.2.1.dst x.2.2 ∧ a0.tmps.size = N ∧ Sim S L0 s.1 ∧ ZokL P w0 S L0 a0 (x :: l) ∧ U f done a0 s) f (zset done (x :: l)) (a.put x.2.1.dst x.2.2) s := by
      intro f
      induction f with
      | zero => intro done a s _ _ _ _ _ _ h; exact h.2.2.elim
      | succ f ih =>
        intro done a s hS hZ hsz hN hd hpre h
        refine ⟨h.1, h.2.imp (fun ⟨y1, y2, u⟩ => ⟨y1, y2, a, rfl, hN, hS, hZ, u⟩) fun h2 i hi => ?_⟩
        obtain ⟨oi, ho, v, s', hk, hn⟩ := h2 i hi
        have hni := notin hd hpre hi
        have hne : ∀ y ∈ x :: l, y.1 ≠ i := fun y hy e => hni (List.mem_append.2 (.inl (List.mem_map.2 ⟨y, hy, e⟩)))
        cases ht : (kd i).isTail with
        | true =>
          have e : kd i = .tail := by cases hkd : kd i <;> rw [hkd] at ht <;> simp [Kd.isTail] at ht <;> rfl
          rw [e] at hk; exact hk.elim
        | false =>
          obtain ⟨h1, h2', h3⟩ := Oper.apart_spec (hzx.apart i oi ho hni ht)
          refine ⟨oi, ho, v, s', (StepK.eq (hsel i oi · · ho) h1).2 hk, ?_⟩
          have hc : putK (kd i) (a.put x.2.1.dst x.2.2) oi.dst v = (putK (kd i) a oi.dst v).put x.2.1.dst x.2.2 := putK_comm (a := a) (j := Kd.q) (k := kd i) (x := x.2.1.dst) (y := oi.dst) x.2.2 v h2'
          rw [hc, zset_set _ hne]
          rw [zset_set _ hne] at hn
          have hsz2 : (putK (kd i) a oi.dst v).tmps.size = a.tmps.size := by cases kd i <;> simp [putK, put_size]
          exact ih (done.setIfInBounds i true) (putK (kd i) a oi.dst v) s' (hS.trans hk.sim) (hZ.putK _ _ (hside ho hni ht)) (fun m hm => by rw [hsz2]; exact hsz m hm) (by rw [hsz2]; exact hN)
            (fun y hy => by rw [getD_set_ne true (Ne.symm (hne y hy))]; exact hd y hy) (fun p hp => by
              by_cases hip : i = p
              · exact absurd (List.mem_append.2 (.inr (hip ▸ hp))) hni
              · rw [getD_set_ne false hip]; exact hpre p hp) hn
    have zstep : ∀ (f : Nat) (done : Array Bool) (a : Act) (s : St) (vs : List (Option Value)) (Ns : List (List Blk)) (w : World), Sim S L0 s.1 → ZokL P w0 S L0 a (x :: l) → Closed md ops done → (∀ y ∈ x :: l, done.getD y.1 true = false) → (∀ p ∈ pre, done.getD p false = true) → Made ms s.2 vs Ns → (∀ (q i : Nat), ix[q]? = some i → ((∃ v, vs[q]? = some (some v)) ↔ done.getD i false = true)) → (∀ m ∈ ms, m.d < a.tmps.size) → a.tmps.size = N →
        Cl w0 (s.1 ++ Ns.flatten) w → x.1 ∈ Region.ready md ops done → anyC P md ops w0 S ms kd ix (fun _ _ => False) U f (zset done (x :: l)) a s → OW r m P ops Q x.1 (AW r m P md ops Q (f + l.length) (done.setIfInBounds x.1 true)) (puts a ms vs) w := by
      intro f done a s vs Ns w hS hZ hc hd hpre hM hrel hsz hN hC hrdy h
      have hexec : (execOp (puts a ms vs).eval x.2.1).run P w = .ok (.value x.2.2) w := by
        rw [puts_exec (ops := ops) (hsel x.1 x.2.1 · · hzx.at_) ms vs a hds]; exact hZ.1 _ w (hS.trans (Sim.more S s.1 Ns.flatten)) hC
      refine OW.val hzx.at_ (by simp [Region.wanted, hzx.guard]) hexec ?_
      rw [puts_put ms vs a fun k hk => (hzx.ds k hk).2]
      refine ihl (x.1 :: pre) (fun f done a1 s => ∃ a0, a1 = a0.put x.2.1.dst x.2.2 ∧ a0.tmps.size = N ∧ Sim S L0 s.1 ∧ ZokL P w0 S L0 a0 (x :: l) ∧ U f done a0 s) (fun y hy => ?_) hch.2.2 (by rw [List.map_cons, List.nodup_cons] at hnd; exact hnd.2) ?_ f (done.setIfInBounds x.1 true) (a.put x.2.1.dst x.2.2) s vs Ns w hS hZ.2 (hc.set hrdy)
        (fun y hy => by rw [getD_set_ne true (Ne.symm (hnx y hy))]; exact hd y (by simp [hy])) (fun p hp => ?_) hM (fun q i hq => by
          rw [getD_set_ne false (Ne.symm (hzx.ix i (List.mem_of_getElem? hq)))]; exact hrel q i hq) (fun m hm => by rw [put_size]; exact hsz m hm) (by rw [put_size]; exact hN) hC (hput f done a s hS hZ hsz hN hd hpre h)
      · have h1 := hz y (by simp [hy])
        exact ⟨h1.at_, h1.guard, fun j oj hj hn ht => h1.apart j oj hj (fun e => hn (by
          simp only [List.map_cons, List.cons_append, List.mem_cons, List.mem_append] at e ⊢
          rcases e with e | e | e
          · exact .inr (.inl e)
          · exact .inl e
          · exact .inr (.inr e))) ht, h1.ds, h1.ix⟩
      · rintro p q hpq f done _ s vs Ns w hM hs hC hN2 hcq hdq hSZ ⟨a0, rfl, hN0, hS0, hZ0, hU⟩
        exact hT (x :: p) q (by rw [hpq]; rfl) f done a0 s vs Ns w hM hs hC hN0 hcq hdq (fun _ => ⟨hS0, hZ0⟩) hU
      · rcases List.mem_cons.1 hp with rfl | hp
        · simp [getD_false_lt (hd x (by simp))]
        · by_cases hxp : x.1 = p
          · subst hxp
            simp [getD_false_lt (hd x (by simp))]
          · rw [getD_set_ne false hxp]; exact hpre p hp
    have xready : ∀ {done : Array Bool}, done.getD x.1 true = false → (∀ p ∈ pre, done.getD p false = true) → x.1 ∈ Region.ready md ops done := fun hd hpre => mem_ready.2 ⟨hd, x.2.1, hzx.at_, fun e he hb => hpre _ (hch.1 e he hb)⟩
    have lnot : ∀ {done : Array Bool} {i : Nat}, (∀ y ∈ x :: l, done.getD y.1 true = false) → i ∈ Region.ready md ops done → ∀ y ∈ l, y.1 ≠ i := fun hd hi y hy e => by
      subst e
      obtain ⟨_, oy, hoy, hall⟩ := mem_ready.1 hi
      have : oy = y.2.1 := Option.some.inj (hoy.symm.trans (hz y (by simp [hy])).at_)
      subst this
      obtain ⟨e, he, hb, hon⟩ := hch.2.1 y hy
      have h1 := hall e he hb
      have h2 : ∃ u ∈ x :: l, u.1 = e.on := by
        rcases hon with h | h
        · exact ⟨x, by simp, h.symm⟩
        · obtain ⟨u, hu, e⟩ := List.mem_map.1 h
          exact ⟨u, by simp [hu], e⟩
      obtain ⟨u, hu, e⟩ := h2
      rw [← e] at h1
      have h3 := getD_false_both (hd u hu)
      rw [h1] at h3; cases h3
    induction f with
    | zero => intro done a s vs Ns w _ _ _ _ _ _ _ _ _ _ h; exact h.2.2.elim
    | succ f ih =>
      intro done a s vs Ns w hS hZ hc hd hpre hM hrel hsz hN hC h
      have hrdy := xready (hd x (by simp)) hpre
      have relz : ∀ (q i : Nat), ix[q]? = some i → ((∃ v, vs[q]? = some (some v)) ↔ (zset done (x :: l)).getD i false = true) := fun q i hq => by
        rw [zset_ne (x :: l) false fun y hy => Ne.symm ((hz y hy).ix i (List.mem_of_getElem? hq))]; exact hrel q i hq
      rcases h.2 with ⟨_, hmade, hU⟩ | h2
      · exact hT [] (x :: l) rfl (f + 1) done a s vs Ns w hM (mk_full hA hM.len relz hmade) hC hN (fun _ => hc) hd (fun _ => ⟨hS, hZ⟩) hU
      refine AW.succ (List.ne_nil_of_mem hrdy) fun i hi => ?_
      by_cases hix : i = x.1
      · subst hix
        exact zstep (f + 1) done a s vs Ns w hS hZ hc hd hpre hM hrel hsz hN hC hrdy h
      · have hne : ∀ y ∈ x :: l, y.1 ≠ i := fun y hy => by
          rcases List.mem_cons.1 hy with rfl | hy
          · exact Ne.symm hix
          · exact lnot hd hi y hy
        have hiz := zready (x :: l) hi hne
        obtain ⟨oi, ho, v, s', hk, hn⟩ := h2 i hiz
        have hni := notin hd hpre hiz
        have hlen : (f + 1).add l.length = f + (x :: l).length := by show f + 1 + l.length = _; simp only [List.length_cons]; omega
        rw [hlen]
        refine step_any hA hsel hM hrel hsz hC hi ho hk fun vs' Ns' w' hM' hrel' hC' => ?_
        have hsz2 : (putK (kd i) a oi.dst v).tmps.size = a.tmps.size := by cases kd i <;> simp [putK, put_size]
        have ht : (kd i).isTail = false := by
          cases hkd : kd i <;> first | rfl | (rw [hkd] at hk; exact hk.elim)
        rw [zset_set _ hne] at hn
        exact ih (done.setIfInBounds i true) _ s' vs' Ns' w' (hS.trans hk.sim) (hZ.putK _ _ (hside ho hni ht)) (hc.set hi) (fun y hy => by rw [getD_set_ne true (Ne.symm (hne y hy))]; exact hd y hy) (fun p hp => by
            by_cases hip : i = p
            · exact absurd (List.mem_append.2 (.inr (hip ▸ hp))) hni
            · rw [getD_set_ne false hip]; exact hpre p hp) hM' hrel' (fun m hm => by rw [hsz2]; exact hsz m hm) (by rw [hsz2]; exact hN) hC' hn

/-! ### a region -/
def setA (b : Bool) : Array Bool → List Nat → Array Bool
  | d, [] => d
  | d, i :: l => setA b (d.setIfInBounds i b) l
theorem setA_get (b : Bool) : ∀ (l : List Nat) (d : Array Bool) (i : Nat), (setA b d l)[i]? = if i ∈ l ∧ i < d.size then some b else d[i]?
  | [], d, i => by simp [setA]
  | j :: l, d, i => by
    rw [setA, setA_get b l]
    by_cases hj : i = j
    · subst hj
      by_cases hi : i < d.size
      · by_cases hl : i ∈ l <;> simp [hi, hl]
      · have : d[i]? = none := Array.getElem?_eq_none (by omega)
        simp [hi]
    · by_cases hl : i ∈ l
      · by_cases hi : i < d.size
        · simp [hl, hi]
        · simp [Array.getElem?_setIfInBounds_ne (Ne.symm hj)]
          rw [if_neg fun h => hi h.2, if_neg fun h => hi h.2]
      · simp [hl, hj, Array.getElem?_setIfInBounds_ne (Ne.symm hj)]
theorem zset_A : ∀ (l : Zl) (d : Array Bool), zset d l = setA true d (l.map (·.1))
  | [], _ => rfl
  | x :: l, d => by rw [zset, zset_A l]; rfl
theorem setA_back {d : Array Bool} {p q : List Nat} (hq : ∀ i ∈ q, d.getD i true = false) (hp : ∀ i ∈ p ++ q, (setA true d q).getD i false = true) (hn : (p ++ q).Nodup) : setA true (setA false (setA true d q) (p ++ q)) p = d := by
  have sz : ∀ (b : Bool) (l : List Nat) (d : Array Bool), (setA b d l).size = d.size := fun b l => by
    induction l with
    | nil => intro d; rfl
    | cons i l ih => intro d; rw [setA, ih]; simp
  apply Array.ext_getElem?
  intro i
  rw [setA_get, setA_get, setA_get, sz, sz]
  have hdis : i ∈ p → i ∉ q := fun h h' => (List.nodup_append.1 hn).2.2 i h i h' rfl
  by_cases hi : i < d.size
  · by_cases h1 : i ∈ p
    · have := hp i (by simp [h1])
      rw [Array.getD_eq_getD_getElem?, setA_get] at this
      simp only [hdis h1, false_and, if_false] at this
      have h0 : d[i]? = some d[i] := by simp [hi]
      rw [h0] at this ⊢
      simp only [Option.getD_some] at this
      simp [h1, hi, this]
    · by_cases h2 : i ∈ q
      · have := hq i h2
        have h0 : d[i]? = some d[i] := by simp [hi]
        rw [Array.getD_eq_getD_getElem?, h0] at this
        simp only [Option.getD_some] at this
        rw [h0]
        simp [h1, h2, hi, this]
      · simp [h1, h2]
  · simp [hi]

def zsB (ops : Array Oper) (D ix : List Nat) (kd : Nat → Kd) (zs : List Nat) : Bool := zs.all fun z => match ops[z]? with
  | some oz => oz.guard.isNone && D.all (fun d => !(oz.looksAt ops).contains d && oz.dst != some d) &&
      ((List.range ops.size).all fun j => zs.contains j || (kd j).isTail || match ops[j]? with | some oj => oz.apart ops oj | none => true) && ix.all (fun i => !(i == z))
  | none => false
def zchB (md : Region.Mode) (ops : Array Oper) : List Nat → List Nat → Bool
  | _, [] => true
  | pre, z :: l => (match ops[z]? with
    | some oz => oz.after.all (fun e => !Region.binds md e || pre.contains e.on)
    | none => false) && (l.all fun y => match ops[y]? with
      | some oy => oy.after.toList.any (fun e => Region.binds md e && (e.on == z || l.contains e.on))
      | none => false) && zchB md ops (z :: pre) l
def Zat (ops : Array Oper) : Zl → Prop
  | [] => True
  | x :: l => ops[x.1]? = some x.2.1 ∧ Zat ops l
def ZevL (P : Program) (w0 : Base) (S : List Nat) (L : List Blk) (bs : List Value) : List (Nat × Value) → Zl → Prop
  | _, [] => True
  | us, x :: l => (∀ L2 w, Sim S L L2 → Cl w0 L2 w → (execOp (ev bs us) x.2.1).run P w = .ok (.value x.2.2) w) ∧ ∃ d, x.2.1.dst = some d ∧ ZevL P w0 S L bs ((d, x.2.2) :: us) l
theorem ZevL.ok : ∀ (l : Zl) (us : List (Nat × Value)), ZevL P w0 S L bs us l → ZokL P w0 S L (fr bs us ds) l
  | [], _, _ => trivial
  | x :: l, us, ⟨h, d, hd, hl⟩ => ⟨fun L2 w hs hc => by rw [eval_ev]; exact h L2 w hs hc, by rw [hd, put_st]; exact ZevL.ok l _ hl⟩
theorem Zat.mem {l : Zl} (h : Zat ops l) : ∀ x ∈ l, ops[x.1]? = some x.2.1 := by
  induction l with
  | nil => intro x hx; cases hx
  | cons y l ih =>
    intro x hx
    rcases List.mem_cons.1 hx with rfl | hx
    · exact h.1
    · exact ih h.2 x hx
theorem zsB_spec {ix : List Nat} {kd : Nat → Kd} {l : Zl} (hat : Zat ops l) (h : zsB ops (ms.map Mk.d) ix kd (l.map (·.1)) = true) : ∀ x ∈ l, Zed1 ops ms ix kd (l.map (·.1) ++ []) x.1 x.2.1 := fun x hx => by
  have h1 := List.all_eq_true.1 h x.1 (List.mem_map.2 ⟨x, hx, rfl⟩)
  rw [hat.mem x hx] at h1
  simp only [Bool.and_eq_true, Option.isNone_iff_eq_none] at h1
  obtain ⟨⟨⟨h1, h3⟩, h4⟩, h5⟩ := h1
  refine ⟨hat.mem x hx, h1, fun j oj hj hne ht => ?_, fun k hk => ?_, fun i hi e => ?_⟩
  · have := List.all_eq_true.1 h4 j (List.mem_range.2 (Array.getElem?_eq_some_iff.1 hj).1)
    rw [hj] at this
    have hc : (l.map (·.1)).contains j = false := by
      rw [List.append_nil] at hne
      cases hh : (l.map (·.1)).contains j
      · rfl
      · exact absurd (by simpa using hh) hne
    rw [hc, ht] at this
    simpa using this
  · have := List.all_eq_true.1 h3 k.d (List.mem_map.2 ⟨k, hk, rfl⟩)
    simpa using this
  · have := List.all_eq_true.1 h5 i hi
    simp [e] at this
theorem zchB_spec : ∀ {l : Zl} {pre : List Nat}, Zat ops l → zchB md ops pre (l.map (·.1)) = true → zchain md pre l
  | [], _, _, _ => trivial
  | x :: l, pre, ⟨h0, hl⟩, h => by
    simp only [List.map_cons, zchB, Bool.and_eq_true, h0] at h
    refine ⟨fun e he hb => ?_, fun y hy => ?_, zchB_spec hl h.2⟩
    · have := Array.all_eq_true_iff_forall_mem.1 h.1.1 e he
      simpa [hb] using this
    · have := List.all_eq_true.1 h.1.2 y.1 (List.mem_map.2 ⟨y, hy, rfl⟩)
      rw [Zat.mem hl y hy] at this
      obtain ⟨e, he, hb⟩ := List.any_eq_true.1 this
      simp only [Bool.and_eq_true, Bool.or_eq_true, beq_iff_eq, List.contains_iff_mem] at hb
      exact ⟨e, by simpa using he, hb⟩

theorem lexO_peel {kd : Nat → Kd} {ix M : List Nat} {tl : List Nat → Array Bool → Bool} : ∀ (p : List Nat) {o : List Nat} {done : Array Bool}, (∀ z ∈ p, kd z = .q) → lexO md ops kd ix M tl (p ++ o) done = true → lexO md ops kd ix M tl o (setA true done p) = true
  | [], _, _, _, h => h
  | z :: p, o, done, hk, h => by
    rw [List.cons_append, lexO, hk z (by simp)] at h
    simp only [Bool.and_eq_true] at h
    exact lexO_peel p (fun y hy => hk y (by simp [hy])) h.2
theorem lx_peel {kd : Nat → Kd} {S2 : List Nat} {ms2 : List Mk} {V2 : List (List Value)} {R : Act → St → Prop} {T : List Oper → Act → St → Prop} {L0 L' : List Blk} {w : World} {vs : List (Option Value)} (hC' : Cl w0 L' w) (hS : ∃ L2, Sim S L0 L2 ∧ Cl w0 L2 w) (hsel : ∀ (j : Nat) (o : Oper) cs b, ops[j]? = some o → o.op ≠ .select cs b) : ∀ (p : Zl) (o : List Nat) (a : Act), (∀ x ∈ p, ops[x.1]? = some x.2.1 ∧ x.2.1.guard = none ∧ ∀ k ∈ ms, k.d ∉ x.2.1.looksAt ops ∧ x.2.1.dst ≠ some k.d) → (∀ x ∈ p, kd x.1 = .q) →
    ZokL P w0 S L0 a p → lx P ops w0 S2 ms2 R T ((p.map (·.1) ++ o).map kd) (pickL ops (p.map (·.1) ++ o)) (puts a ms vs) (L', V2) → lx P ops w0 S2 ms2 R T (o.map kd) (pickL ops o) (puts (zput a p) ms vs) (L', V2)
  | [], _, _, _, _, _, h => h
  | x :: p, o, a, hx, hk, hZ, h => by
    obtain ⟨hat, hg, hds⟩ := hx x (by simp)
    have hpick : pickL ops ((x :: p).map (·.1) ++ o) = x.2.1 :: pickL ops (p.map (·.1) ++ o) := by simp only [List.map_cons, List.cons_append, pickL, hat]
    rw [hpick, List.map_cons, List.cons_append, List.map_cons, hk x (by simp)] at h
    obtain ⟨v, s2, ⟨hy, rfl⟩, h⟩ := h
    obtain ⟨L2, hS2, hC2⟩ := hS
    have hrun : (execOp (puts a ms vs).eval x.2.1).run P w = .ok (.value x.2.2) w := by
      rw [puts_exec (ops := ops) (hsel x.1 x.2.1 · · hat) ms vs a fun k hk => (hds k hk).1]; exact hZ.1 L2 w hS2 hC2
    have hvz : v = x.2.2 := by
      rcases hy L' (Sim.refl _ _) with ⟨_, hq⟩ | ⟨hw, _⟩
      · have := hq w hC'
        unfold Oper.quietAt at this
        rw [hrun] at this
        first | exact this.2.symm | exact this.2
      · simp [Region.wanted, hg] at hw
    subst hvz
    simp only [putK] at h
    rw [puts_put ms vs a fun k hk => (hds k hk).2] at h
    exact lx_peel hC' ⟨L2, hS2, hC2⟩ hsel p o _ (fun y hy => hx y (by simp [hy])) (fun y hy => hk y (by simp [hy])) hZ.2 h
theorem zput_size : ∀ (l : Zl) (a : Act), (zput a l).tmps.size = a.tmps.size
  | [], _ => rfl
  | x :: l, a => by rw [zput, zput_size l, put_size]

end
end Go.Proofs.YtoegpalacppllaaGreat

/- A region that draws its order, with a new variable that may be made at any time beside the rest. No function of the program is in sight here. -/
namespace Go.Proofs.YtoegpalacppllaaGreat
open Go.RowKit

section
variable {P : Program} {ops : Array Oper} {Q : Exit → Act → World → Prop} {a : Act} {w0 : Base} {W : World} {L : List Blk} {md : Region.Mode} {S : List Nat} {r : Option (Option Nat)} {m : Nat} {ms : List Mk} {bs : List Value} {us : List (Nat × Value)} {ds : List Deferred}

def noS : Kd → Bool
  | .s => false
  | _ => true
/-- more blocks behind those that are known -/
theorem StepK.more {k : Kd} {o : Oper} {s s' : St} {v : Value} (E : List Blk) (hk : noS k = true) (h : StepK P ops w0 S ms k o a s v s') : StepK P ops w0 S ms k o a (s.1 ++ E, s.2) v (s'.1 ++ E, s'.2) := by
  have hs : ∀ {L2}, Sim S (s.1 ++ E) L2 → Sim S s.1 L2 := fun h => (Sim.more S s.1 E).trans h
  cases k with
  | q => exact ⟨fun L2 hL => h.1 L2 (hs hL), by rw [h.2]⟩
  | r => exact ⟨fun N => by rw [List.append_assoc]; exact h.1 (E ++ N), by rw [h.2]⟩
  | s => cases hk
  | mk i =>
    obtain ⟨h1, h2, k, z, h3, h4, h5⟩ := h
    exact ⟨h1, by rw [h2], k, z, h3, h4, fun L2 hL => h5 L2 (hs hL)⟩
  | mkd i j =>
    obtain ⟨h1, h2, k, z, kj, zj, h3, h4, h5, h6, h7⟩ := h
    exact ⟨h1, by rw [h2], k, z, kj, zj, h3, h4, h5, h6, fun u Bs L2 hL hX => h7 u Bs L2 (hs hL) hX⟩
  | st i =>
    obtain ⟨h1, k, vs, h3, h4, h5⟩ := h
    exact ⟨h1, k, vs, h3, h4, by rw [h5]⟩
  | rd i =>
    obtain ⟨h1, k, z, h3, h4, h5⟩ := h
    exact ⟨by rw [h1], k, z, h3, h4, fun u Bs L2 hL hX => h5 u Bs L2 (hs hL) hX⟩
  | tail => exact h.elim
end
end Go.Proofs.YtoegpalacppllaaGreat

/- A query, by the reference. -/
namespace Go.Proofs.YtoegpalacppllaaGreat
open Go.RowKit Pl
open Tr Hn
/-- no box, as cells -/
theorem z31_no : (z31 : List Value) = boC noBo Sl.no := by kernel_rfl
end Go.Proofs.YtoegpalacppllaaGreat

/- A trace, by the reference, with its errors; the same finding, read twice. -/
namespace Go.Proofs.YtoegpalacppllaaGreat
open Go.RowKit Pl
open Tr Hn
theorem z38_no : (z38 : List Value) = fiC Sl.no ⟨none, 0, 0⟩ 0 0 := by kernel_rfl
end Go.Proofs.YtoegpalacppllaaGreat

/-
  DERIVED: THE SHELF's CONTRACTS AT THIS DUMP, IN PLAIN WORDS (tools/lay-plain.mjs out of 'TryzShelf.lean', which tools/lay-shelf.mjs wrote): THE SAME DECLARATIONS UNDER THE SAME NAMES: 'import', 'namespace', 'open', 'def', 'theorem' AND NOTHING ELSE: no command of the shelf's: FOR A HAND-IN. Each laying: the table of numbers ('.._ren') and one theorem, a field a fact of the dump's own or the kernel's comparison; each contract: ONE APPLICATION.
-/
namespace Go.Proofs
open Go.Shelf
def Tryz.lays125_ren : Go.Shelf.Ren := ⟨fun | 125 => 104 | 128 => 146 | 129 => 147 | n => n, fun | 46 => 113 | 3 => 3 | 51 => 223 | 53 => 22 | 4 => 4 | 5 => 5 | 9 => 9 | n => n, fun | n => n⟩
theorem Tryz.lays125 : Go.Proofs.Lays.n125 Tryz.prog Tryz.lays125_ren := {
  mixed := by kernel_rfl
  f125 := Tryz.func104.trans (congrArg some (by kernel_rfl))
  f128 := Tryz.func146.trans (congrArg some (by kernel_rfl))
  f129 := Tryz.func147.trans (congrArg some (by kernel_rfl))
  t3 := Tryz.underlying3
  a3 := Tryz.isAgg3
  z3 := Tryz.sizeOf3
  v3 := Tryz.zeroValue3
  t4 := Tryz.underlying4
  a4 := Tryz.isAgg4
  z4 := Tryz.sizeOf4
  v4 := Tryz.zeroValue4
  t5 := Tryz.underlying5
  a5 := Tryz.isAgg5
  z5 := Tryz.sizeOf5
  v5 := Tryz.zeroValue5
  t9 := Tryz.underlying9
  a9 := Tryz.isAgg9
  z9 := Tryz.sizeOf9
  v9 := Tryz.zeroValue9
  t46 := Tryz.underlying113
  a46 := Tryz.isAgg113
  z46 := Tryz.sizeOf113
  v46 := Tryz.zeroValue113
  t51 := Tryz.underlying223
  a51 := Tryz.isAgg223
  z51 := Tryz.sizeOf223
  v51 := Tryz.zeroValue223
  t53 := Tryz.underlying22
  a53 := Tryz.isAgg22
  z53 := Tryz.sizeOf22
  v53 := Tryz.zeroValue22 }
/-- bits.Len: "Len returns the minimum number of bits required to represent x; the result is 0 for x == 0.": IT RETURNS 'Lib.bitLen x'; the world is as it was. (A uint has 64 bits in the model.) ITS CALLEE bits.Len64 IS MET BY ITS OWN CONTRACT OFF THE SHELF (lay that first). (LAID: no walk: one application.) -/
theorem Tryz.bits_Len (x : Int) (w : World) (h0 : 0 ≤ x) (h1 : x ≤ 18446744073709551615) :
    Calls Tryz.prog 104 #[.int .u64 x] w fun e w' => e = .returned (.int .i64 (Lib.bitLen x.toNat)) ∧ w' = w := Any.bits_Len Tryz.lays125 x w h0 h1
def Tryz.lays189_ren : Go.Shelf.Ren := ⟨fun | 189 => 162 | 125 => 104 | 257 => 185 | 128 => 146 | 129 => 147 | 294 => 195 | 295 => 196 | 296 => 197 | 297 => 198 | 298 => 199 | 299 => 200 | 216 => 169 | 300 => 201 | 301 => 202 | 328 => 205 | 329 => 172 | 330 => 173 | 331 => 206 | 332 => 207 | 215 => 186 | 343 => 215 | n => n, fun | 28 => 27 | 3 => 3 | 46 => 113 | 0 => 0 | 51 => 223 | 53 => 22 | 4 => 4 | 183 => 217 | 182 => 216 | 131 => 209 | 5 => 5 | 9 => 9 | 218 => 242 | 222 => 246 | 228 => 254 | 229 => 255 | n => n, fun | n => n⟩
theorem Tryz.lays189 : Go.Proofs.Lays.n189 Tryz.prog Tryz.lays189_ren := {
  mixed := by kernel_rfl
  f125 := Tryz.func104.trans (congrArg some (by kernel_rfl))
  f128 := Tryz.func146.trans (congrArg some (by kernel_rfl))
  f129 := Tryz.func147.trans (congrArg some (by kernel_rfl))
  f189 := Tryz.func162.trans (congrArg some (by kernel_rfl))
  f215 := Tryz.func186.trans (congrArg some (by kernel_rfl))
  f216 := Tryz.func169.trans (congrArg some (by kernel_rfl))
  f257 := Tryz.func185.trans (congrArg some (by kernel_rfl))
  f294 := Tryz.func195.trans (congrArg some (by kernel_rfl))
  f295 := Tryz.func196.trans (congrArg some (by kernel_rfl))
  f296 := Tryz.func197.trans (congrArg some (by kernel_rfl))
  f297 := Tryz.func198.trans (congrArg some (by kernel_rfl))
  f298 := Tryz.func199.trans (congrArg some (by kernel_rfl))
  f299 := Tryz.func200.trans (congrArg some (by kernel_rfl))
  f300 := Tryz.func201.trans (congrArg some (by kernel_rfl))
  f301 := Tryz.func202.trans (congrArg some (by kernel_rfl))
  f328 := Tryz.func205.trans (congrArg some (by kernel_rfl))
  f329 := Tryz.func172.trans (congrArg some (by kernel_rfl))
  f330 := Tryz.func173.trans (congrArg some (by kernel_rfl))
  f331 := Tryz.func206.trans (congrArg some (by kernel_rfl))
  f332 := Tryz.func207.trans (congrArg some (by kernel_rfl))
  f343 := Tryz.func215.trans (congrArg some (by kernel_rfl))
  t0 := Tryz.underlying0
  a0 := Tryz.isAgg0
  z0 := Tryz.sizeOf0
  v0 := Tryz.zeroValue0
  t3 := Tryz.underlying3
  a3 := Tryz.isAgg3
  z3 := Tryz.sizeOf3
  v3 := Tryz.zeroValue3
  t4 := Tryz.underlying4
  a4 := Tryz.isAgg4
  z4 := Tryz.sizeOf4
  v4 := Tryz.zeroValue4
  t5 := Tryz.underlying5
  a5 := Tryz.isAgg5
  z5 := Tryz.sizeOf5
  v5 := Tryz.zeroValue5
  t9 := Tryz.underlying9
  a9 := Tryz.isAgg9
  z9 := Tryz.sizeOf9
  v9 := Tryz.zeroValue9
  t28 := Tryz.underlying27
  a28 := Tryz.isAgg27
  z28 := Tryz.sizeOf27
  v28 := Tryz.zeroValue27
  t46 := Tryz.underlying113
  a46 := Tryz.isAgg113
  z46 := Tryz.sizeOf113
  v46 := Tryz.zeroValue113
  t51 := Tryz.underlying223
  a51 := Tryz.isAgg223
  z51 := Tryz.sizeOf223
  v51 := Tryz.zeroValue223
  t53 := Tryz.underlying22
  a53 := Tryz.isAgg22
  z53 := Tryz.sizeOf22
  v53 := Tryz.zeroValue22
  t131 := Tryz.underlying209
  a131 := Tryz.isAgg209
  z131 := Tryz.sizeOf209
  v131 := Tryz.zeroValue209
  t182 := Tryz.underlying216
  a182 := Tryz.isAgg216
  z182 := Tryz.sizeOf216
  v182 := Tryz.zeroValue216
  t183 := Tryz.underlying217
  a183 := Tryz.isAgg217
  z183 := Tryz.sizeOf217
  v183 := Tryz.zeroValue217
  t218 := Tryz.underlying242
  a218 := Tryz.isAgg242
  z218 := Tryz.sizeOf242
  v218 := Tryz.zeroValue242
  t222 := Tryz.underlying246
  a222 := Tryz.isAgg246
  z222 := Tryz.sizeOf246
  v222 := Tryz.zeroValue246
  t228 := Tryz.underlying254
  a228 := Tryz.isAgg254
  z228 := Tryz.sizeOf254
  v228 := Tryz.zeroValue254
  t229 := Tryz.underlying255
  a229 := Tryz.isAgg255
  z229 := Tryz.sizeOf255
  v229 := Tryz.zeroValue255 }
open Go.Sort Go.RowKit in
theorem Tryz.slices_Sort_int (blk off cap : Nat) (zs : List Int) (w : World) (hH : Holds (Value.int .i64) w blk off zs.toArray) (hblk : blk < w.heap.size) (hsz : zs.length < 4611686018427387904) :
    Calls Tryz.prog 162 #[.slice (some ⟨blk, off, none⟩) zs.length cap] w fun e w' =>
      e = .returned (.tuple #[]) ∧ ∃ n os, w' = grow (putRow (Value.int .i64) (Sort.ahead w n) blk off (zs.mergeSort fun x y => decide (x ≤ y)).toArray) os := Any.slices_Sort_int Tryz.lays189 blk off cap zs w hH hblk hsz
def Tryz.laysNm220_ren : Go.Shelf.Ren := ⟨fun | 20 => 86 | n => n, fun | 22 => 27 | 3 => 3 | 4 => 4 | 0 => 0 | n => n, fun | n => n⟩
theorem Tryz.laysNm220 : Go.Proofs.Lays2.n20 Tryz.prog Tryz.laysNm220_ren := {
  mixed := by kernel_rfl
  f20 := Tryz.func86.trans (congrArg some (by kernel_rfl))
  t0 := Tryz.underlying0
  a0 := Tryz.isAgg0
  z0 := Tryz.sizeOf0
  v0 := Tryz.zeroValue0
  t3 := Tryz.underlying3
  a3 := Tryz.isAgg3
  z3 := Tryz.sizeOf3
  v3 := Tryz.zeroValue3
  t4 := Tryz.underlying4
  a4 := Tryz.isAgg4
  z4 := Tryz.sizeOf4
  v4 := Tryz.zeroValue4
  t22 := Tryz.underlying27
  a22 := Tryz.isAgg27
  z22 := Tryz.sizeOf27
  v22 := Tryz.zeroValue27
  i3 := by kernel_rfl }
open Go.RowKit Go.Lib Go.Sort in
/-- slices.Compact at []int: "Compact replaces consecutive runs of equal elements with a single copy. This is like the uniq command found on Unix. Compact modifies the contents of the slice s and returns the modified slice, which may have a smaller length. Compact zeroes the elements between the new length and the original length. The result preserves the nilness of s.": IT RETURNS THE SLICE CUT TO 'Lib.compact zs'; ITS CELLS HOLD 'Lib.compact zs', THEN ZERO VALUES up to the old length; all else is as it was, but for the count of draws. IN THE WORDS OF slices.Sort's CONTRACT ('Holds', 'putRow'): so the everyday 'slices.Sort(xs); xs = slices.Compact(xs)' goes from the one contract to the other. It asks 'zs.length ≤ cap' (every slice's: the reslicing 's[:k]' looks at it). Length 0, nil: '.._empty'. (LAID: no walk: one application.) -/
theorem Tryz.slices_Compact_int (blk off cap : Nat) (zs : List Int) (w : World) (hH : Holds (Value.int .i64) w blk off zs.toArray) (hsz : zs.length ≤ 9223372036854775807) (hcap : zs.length ≤ cap) :
    Calls Tryz.prog 86 #[.slice (some ⟨blk, off, none⟩) zs.length cap] w fun e w' => e = .returned (.slice (some ⟨blk, off, none⟩) (Lib.compact zs).length cap) ∧ ∃ q, w' = putRow (Value.int .i64) (Sort.ahead w q) blk off (Lib.compact zs ++ List.replicate (zs.length - (Lib.compact zs).length) 0).toArray := Any.slices_Compact_int Tryz.laysNm220 blk off cap zs w hH hsz hcap
open Go.RowKit Go.Lib Go.Sort in
/-- The same at a slice of length 0, a nil one too: it comes back as it is. (LAID: no walk: one application.) -/
theorem Tryz.slices_Compact_int_empty (a : Option Addr) (cap : Nat) (w : World) :
    Calls Tryz.prog 86 #[.slice a 0 cap] w fun e w' => e = .returned (.slice a 0 cap) ∧ w' = w := Any.slices_Compact_int_empty Tryz.laysNm220 a cap w
def Tryz.laysNm225_ren : Go.Shelf.Ren := ⟨fun | 25 => 132 | 31 => 169 | 32 => 170 | 37 => 186 | n => n, fun | 22 => 27 | 3 => 3 | 4 => 4 | 40 => 113 | 0 => 0 | n => n, fun | n => n⟩
theorem Tryz.laysNm225 : Go.Proofs.Lays2.n25 Tryz.prog Tryz.laysNm225_ren := {
  mixed := by kernel_rfl
  f25 := Tryz.func132.trans (congrArg some (by kernel_rfl))
  f31 := Tryz.func169.trans (congrArg some (by kernel_rfl))
  f32 := Tryz.func170.trans (congrArg some (by kernel_rfl))
  f37 := Tryz.func186.trans (congrArg some (by kernel_rfl))
  t0 := Tryz.underlying0
  a0 := Tryz.isAgg0
  z0 := Tryz.sizeOf0
  v0 := Tryz.zeroValue0
  t3 := Tryz.underlying3
  a3 := Tryz.isAgg3
  z3 := Tryz.sizeOf3
  v3 := Tryz.zeroValue3
  t4 := Tryz.underlying4
  a4 := Tryz.isAgg4
  z4 := Tryz.sizeOf4
  v4 := Tryz.zeroValue4
  t22 := Tryz.underlying27
  a22 := Tryz.isAgg27
  z22 := Tryz.sizeOf27
  v22 := Tryz.zeroValue27
  t40 := Tryz.underlying113
  a40 := Tryz.isAgg113
  z40 := Tryz.sizeOf113
  v40 := Tryz.zeroValue113 }
open Go.RowKit Go.Lib in
/-- slices.BinarySearch at []int: "BinarySearch searches for target in a sorted slice and returns the earliest position where target is found, or the position where target would appear in the sort order; it also returns a bool saying whether the target is really found in the slice. The slice must be sorted in increasing order.": OF A SORTED SLICE IT RETURNS how many elements are less than the target, and whether the target is among the elements; the world is as it was but for the count of draws. 'zs': what the cells behind the slice's address hold; 'zs.take n': its elements. (Of a slice that is not sorted: no contract here.) (LAID: no walk: one application.) -/
theorem Tryz.slices_BinarySearch_int (b off n c : Nat) (zs : List Int) (x : Int) (w : World) (hz : n ≤ zs.length) (hbig : n < 4611686018427387904) (hc : ∀ j, j < zs.length → w.cell? ⟨b, off + j, none⟩ = some (.int .i64 (zs.getD j 0))) (hs : (zs.take n).Pairwise (· ≤ ·)) :
    Calls Tryz.prog 132 #[.slice (some ⟨b, off, none⟩) n c, .int .i64 x] w fun e w' => e = .returned (.tuple #[.int .i64 ((zs.take n).countP (· < x) : Nat), .bool ((zs.take n).contains x)]) ∧ ∃ q, w' = w.drewN q := Any.slices_BinarySearch_int Tryz.laysNm225 b off n c zs x w hz hbig hc hs
open Go.RowKit Go.Sort in
/-- .. and plain. (LAID: no walk: one application.) -/
theorem Tryz.slices_Sort_int_none (p : Option Addr) (cap : Nat) (w : World) :
    Calls Tryz.prog 162 #[.slice p 0 cap] w fun e w' => e = .returned (.tuple #[]) ∧ w' = w := Any.slices_Sort_int_none Tryz.lays189 p cap w
open Go.RowKit Go.Lib in
/-- slices.BinarySearch at []int of no element: position 0, not found; the world is as it was. (LAID: no walk: one application.) -/
theorem Tryz.slices_BinarySearch_int_empty (a : Option Addr) (c : Nat) (x : Int) (w : World) :
    Calls Tryz.prog 132 #[.slice a 0 c, .int .i64 x] w fun e w' => e = .returned (.tuple #[.int .i64 0, .bool false]) ∧ w' = w := Any.slices_BinarySearch_int_empty Tryz.laysNm225 a c x w
end Go.Proofs

/- Nodes and trees, by the program. -/
namespace Go.Proofs.YtoegpalacppllaaGreat
open Go.RowKit Pl
open Tr Hn
theorem bitLen_tab : (Tr.upto 128 fun v => Nat.ble v 0 || Nat.beq (Lib.bitLen v) (lev v + 1)) = true := by decide +kernel
theorem bitLen_lev {v : Nat} (h0 : 0 < v) (h : v < 128) : Lib.bitLen v = lev v + 1 := by
 have := Tr.upto_get bitLen_tab h
 simp only [Bool.or_eq_true, Nat.ble_eq] at this
 rcases this with h1 | h1
 ·omega
 ·exact Nat.eq_of_beq_eq_true h1
theorem g_Len (n : Nat) (h : n < 18446744073709551616) : Gives Tryz.prog 104 [.int .u64 (n : Int)].toArray (.int .i64 (Lib.bitLen n)) := fun w =>
 (Tryz.bits_Len n w (by omega) (by omega)).mono fun e w' ⟨he, hw⟩ => ⟨he, hw ▸ Below.refl _ _⟩
set_option maxRecDepth 10000 in
/-- (headend/cover.node).level -/
theorem g_plevel (v : Nat) (h0 : 0 < v) (h : v < 128) : Gives Tryz.prog 102 [.int .i64 (v : Int)].toArray (.int .i64 ((lev v) : Int)) := by
 refine gives_of Tryz.func102 rfl (bs := [.int .i64 (v : Int), undef, undef, undef, undef, undef, undef]) rfl ?_
 intro w hW
 have hb := bitLen_lev h0 h
 have hlv := lev_le h
 refine c_seq (c_reg ?_)
 refine bI ?_
 refine l_end (n_then (c_seq (c_reg ?_)))
 refine aI ?_
 refine l_val (r_conv_i64_u64 (n := v) Tryz.underlying111 Tryz.underlying113 rfl rfl) rfl rfl ?_
 rw [show (BitVec.ofNat 64 v).toNat = v by rw [BitVec.toNat_ofNat]; omega]
 refine l_call hW (g_Len v (by omega)) en104 rfl rfl rfl rfl ?_
 intro W hW
 rw [hb]
 refine l_val (r_subN (m := lev v + 1) (n := 1) rfl rfl rfl (by omega) (by omega)) rfl rfl ?_
 refine bI ?_
 refine l_end (n_then (c_ret ?_))
 refine ret_tmp (v := .int .i64 ((lev v) : Int)) rfl ?_ ⟨rfl, hW.below⟩
 rfl

set_option maxRecDepth 10000 in
/-- (headend/cover.tree).size -/
theorem g_psize (s : Sc) (h0 : 0 ≤ s.d) (h6 : s.d ≤ 6) : Gives Tryz.prog 99 [.agg [.int .u8 s.k, .int .i64 s.d, .int .i64 (strideN s.d : Int)].toArray].toArray (.int .i64 ((p2 s.d.toNat : Nat) : Int)) := by
 refine gives_of Tryz.func99 rfl (bs := [.agg [.int .u8 s.k, .int .i64 s.d, .int .i64 (strideN s.d : Int)].toArray, undef, undef, undef, undef, undef]) rfl ?_
 intro w hW
 have hp := p2_le (n := s.d.toNat) (by omega)
 refine c_seq (c_reg ?_)
 refine xB hW ?_
 intro g1 W hW
 refine bI ?_
 refine l_end (n_then (c_seq (c_reg ?_)))
 refine l_val (r_fieldAddr 1 Tryz.underlying106 rfl tyC3.size rfl rfl rfl) rfl rfl ?_
 refine dC hW 0 tyC3 ?_
 refine l_val (r_shlZ (m := 1) rfl rfl rfl (by omega) (by omega) (by omega)) rfl rfl ?_
 refine bI ?_
 refine l_end (n_then (c_ret ?_))
 refine ret_tmp (v := .int .i64 ((p2 s.d.toNat : Nat) : Int)) rfl ?_ ⟨rfl, hW.below⟩
 exact congrArg (fun n : Nat => Value.int .i64 (n : Int)) (Nat.one_mul _)

set_option maxRecDepth 10000 in
/-- (headend/cover.tree).leaf -/
theorem g_pleaf (s : Sc) (u : Nat) (h0 : 0 ≤ s.d) (h6 : s.d ≤ 6) (hu : u < p2 s.d.toNat) : Gives Tryz.prog 53 [.agg [.int .u8 s.k, .int .i64 s.d, .int .i64 (strideN s.d : Int)].toArray, .int .i64 (u : Int)].toArray (.int .i64 ((p2 s.d.toNat + u : Nat) : Int)) := by
 refine gives_of Tryz.func53 rfl (bs := [.agg [.int .u8 s.k, .int .i64 s.d, .int .i64 (strideN s.d : Int)].toArray, .int .i64 (u : Int), undef, undef, undef, undef, undef, undef, undef]) rfl ?_
 intro w hW
 have hp := p2_le (n := s.d.toNat) (by omega)
 refine c_seq (c_reg ?_)
 refine xB hW ?_
 intro g1 W hW
 refine bI ?_
 refine l_end (n_then (c_seq (c_reg ?_)))
 refine dA hW 0 tyA106 ?_
 refine l_call hW (g_psize s (by omega) (by omega)) en99 rfl rfl rfl rfl ?_
 intro W hW
 refine aI ?_
 refine l_val (r_addN rfl rfl rfl (by omega)) rfl rfl ?_
 refine bI ?_
 refine l_end (n_then (c_ret ?_))
 refine ret_tmp (v := .int .i64 ((p2 s.d.toNat + u : Nat) : Int)) rfl ?_ ⟨rfl, hW.below⟩
 rfl

set_option maxRecDepth 10000 in
/-- (headend/cover.tree).has -/
theorem g_phas (s : Sc) (v : Int) (h0 : 0 ≤ s.d) (h6 : s.d ≤ 6) : Gives Tryz.prog 113 [.agg [.int .u8 s.k, .int .i64 s.d, .int .i64 (strideN s.d : Int)].toArray, .int .i64 v].toArray (.bool (nodeB s.d v)) := by
 refine gives_of Tryz.func113 rfl (bs := [.agg [.int .u8 s.k, .int .i64 s.d, .int .i64 (strideN s.d : Int)].toArray, .int .i64 v, undef, undef, undef, undef, undef, undef, undef, undef, undef, undef, undef, undef]) rfl ?_
 intro w hW
 have hp := p2_le (n := s.d.toNat) (by omega)
 refine c_seq (c_reg ?_)
 refine xB hW ?_
 intro g1 W hW
 refine bB ?_
 refine l_end (n_then (c_seq (c_reg ?_)))
 refine aI ?_
 refine l_val (r_geq rfl rfl rfl rfl) rfl rfl ?_
 refine l_split ?_ ?_
 ·intro hc1
  replace hc1 := of_decide_eq_true hc1
  refine aB ?_
  refine gI ?_
  refine l_loadAG hW 0 tyA106 (by kernel_rfl) rfl rfl rfl rfl (by first | rfl | exact kc_len _ | exact kcf_len _ | exact boC_len _ _ | (simp; done)) ?_
  refine l_callG hW (g_psize s (by omega) (by omega)) en99 (by kernel_rfl) rfl rfl rfl ?_
  intro W hW
  refine l_valG (r_mulN (m := 2) rfl rfl rfl (by omega)) (by kernel_rfl) rfl ?_
  refine l_valG (r_lss rfl rfl rfl rfl) (by kernel_rfl) rfl ?_
  refine kB ?_
  refine bB ?_
  refine l_end (n_then (c_ret ?_))
  refine ret_tmp (v := .bool (nodeB s.d v)) rfl ?_ ⟨rfl, hW.below⟩
  exact congrArg Value.bool (decide_eq_decide.2 (by omega))
 ·intro hc1
  replace hc1 := of_decide_eq_false hc1
  refine aB ?_
  refine lN ?_
  refine lN ?_
  refine lN ?_
  refine lN ?_
  refine lN ?_
  refine kB ?_
  refine bB ?_
  refine l_end (n_then (c_ret ?_))
  refine ret_tmp (v := .bool (nodeB s.d v)) rfl ?_ ⟨rfl, hW.below⟩
  exact congrArg Value.bool (decide_eq_false (by omega)).symm

set_option maxRecDepth 10000 in
/-- (headend/cover.node).below -/
theorem g_pbelow (y v : Nat) (hy : 0 < y) (hy2 : y < 128) (hv : 0 < v) (hv2 : v < 128) : Gives Tryz.prog 114 [.int .i64 (y : Int), .int .i64 (v : Int)].toArray (.bool (belowN y v)) := by
 refine gives_of Tryz.func114 rfl (bs := [.int .i64 (y : Int), .int .i64 (v : Int), undef, undef, undef, undef, undef, undef, undef, undef, undef, undef, undef, undef, undef, undef, undef, undef, undef, undef, undef, undef, undef, undef, undef, undef, undef]) rfl ?_
 intro w hW
 have l1 := lev_le hy2
 have l2 := lev_le hv2
 refine c_seq (c_reg ?_)
 refine bB ?_
 refine l_end (n_then (c_seq (c_seq (c_reg ?_))))
 refine aI ?_
 refine l_val (r_lssN (n := 1) rfl rfl rfl rfl) rfl rfl ?_
 refine l_split ?_ ?_
 ·intro hc1
  replace hc1 := of_decide_eq_true hc1
  refine aB ?_
  refine lN ?_
  refine lN ?_
  refine kB ?_
  refine aB ?_
  refine lN ?_
  refine lN ?_
  refine lN ?_
  refine lN ?_
  refine lN ?_
  refine kB ?_
  refine l_end (n_then ?_)
  refine c_true rfl ?_
  refine c_seq (c_reg ?_)
  refine bB ?_
  refine l_end (n_then (c_ret (r_then ?_)))
  refine ret_tmp (v := .bool (belowN y v)) rfl ?_ ⟨rfl, hW.below⟩
  exact congrArg Value.bool (by rw [eq_comm, ← Bool.not_eq_true, below_iff]; omega)
 ·intro hc1
  replace hc1 := of_decide_eq_false hc1
  refine aB ?_
  refine gI ?_
  refine l_valG (r_lssN (n := 1) rfl rfl rfl rfl) (by kernel_rfl) rfl ?_
  refine l_split ?_ ?_
  ·intro hc2
   replace hc2 := of_decide_eq_true hc2
   refine kB ?_
   refine aB ?_
   refine lN ?_
   refine lN ?_
   refine lN ?_
   refine lN ?_
   refine lN ?_
   refine kB ?_
   refine l_end (n_then ?_)
   refine c_true rfl ?_
   refine c_seq (c_reg ?_)
   refine bB ?_
   refine l_end (n_then (c_ret (r_then ?_)))
   refine ret_tmp (v := .bool (belowN y v)) rfl ?_ ⟨rfl, hW.below⟩
   exact congrArg Value.bool (by rw [eq_comm, ← Bool.not_eq_true, below_iff]; omega)
  ·intro hc2
   replace hc2 := of_decide_eq_false hc2
   refine kB ?_
   refine aB ?_
   refine gI ?_
   refine l_callG hW (g_plevel _ (by omega) (by omega)) en102 (by kernel_rfl) rfl rfl rfl ?_
   intro W hW
   refine gI ?_
   refine l_callG hW (g_plevel _ (by omega) (by omega)) en102 (by kernel_rfl) rfl rfl rfl ?_
   intro W hW
   refine l_valG (r_lssN rfl rfl rfl rfl) (by kernel_rfl) rfl ?_
   refine l_split ?_ ?_
   ·intro hc3
    replace hc3 := of_decide_eq_true hc3
    refine kB ?_
    refine l_end (n_then ?_)
    refine c_true rfl ?_
    refine c_seq (c_reg ?_)
    refine bB ?_
    refine l_end (n_then (c_ret (r_then ?_)))
    refine ret_tmp (v := .bool (belowN y v)) rfl ?_ ⟨rfl, hW.below⟩
    exact congrArg Value.bool (by rw [eq_comm, ← Bool.not_eq_true, below_iff]; omega)
   ·intro hc3
    replace hc3 := of_decide_eq_false hc3
    refine kB ?_
    refine l_end (n_then ?_)
    refine c_false rfl ?_
    refine c_skip (n_then (c_seq (c_reg ?_)))
    refine aI ?_
    refine aI ?_
    refine l_call hW (g_plevel _ (by omega) (by omega)) en102 rfl rfl rfl rfl ?_
    intro W hW
    refine aI ?_
    refine l_call hW (g_plevel _ (by omega) (by omega)) en102 rfl rfl rfl rfl ?_
    intro W hW
    refine l_val (r_subN rfl rfl rfl (by omega) (by omega)) rfl rfl ?_
    refine l_val (r_shr_i64N (n := y) (s := lev y - lev v) rfl rfl rfl (by omega)) rfl rfl ?_
    refine aI ?_
    refine l_val (r_eqlN rfl rfl rfl rfl) rfl rfl ?_
    refine bB ?_
    refine l_end (n_then (c_ret ?_))
    refine ret_tmp (v := .bool (belowN y v)) rfl ?_ ⟨rfl, hW.below⟩
    exact congrArg Value.bool (by rw [Bool.eq_iff_iff]; simp only [decide_eq_true_eq, belowN, Bool.and_eq_true, Nat.ble_eq, Nat.beq_eq, sh_eq]; omega)

end Go.Proofs.YtoegpalacppllaaGreat

/- Members, by the program. -/
namespace Go.Proofs.YtoegpalacppllaaGreat
open Go.RowKit Pl
open Tr Hn
set_option maxRecDepth 10000 in
/-- (headend/cover.tree).special -/
theorem g_pspecial (s : Sc) (v : Nat) (hv : 0 < v) (hv2 : v < 128) : Gives Tryz.prog 57 [.agg [.int .u8 s.k, .int .i64 s.d, .int .i64 (strideN s.d : Int)].toArray, .int .i64 (v : Int)].toArray (.bool (specN s.d v)) := by
 refine gives_of Tryz.func57 rfl (bs := [.agg [.int .u8 s.k, .int .i64 s.d, .int .i64 (strideN s.d : Int)].toArray, .int .i64 (v : Int), undef, undef, undef, undef, undef, undef, undef, undef, undef]) rfl ?_
 intro w hW
 have hsp := stride_pos s.d
 refine c_seq (c_reg ?_)
 refine xB hW ?_
 intro g1 W hW
 refine bB ?_
 refine l_end (n_then (c_seq ?_))
 refine c_regY hW [] [.q, .q, .q, .q, .q, .q, .q] [0, 1, 0, 4, 15, 31, 63] (by kernel_rfl) (by kernel_rfl) ?_
 refine yI ?_
 refine y_call (g_plevel _ (by omega) (by omega)) en102 rfl rfl rfl rfl ?_
 refine y_val (r_fieldAddr 2 Tryz.underlying106 rfl tyC3.size rfl rfl rfl) rfl rfl ?_
 refine y_loadC 0 tyC3 rfl rfl rfl rfl rfl rfl (by decide) ?_
 refine y_val (r_remN rfl rfl rfl (by omega)) rfl rfl ?_
 refine y_val (r_eqlN (n := 0) rfl rfl rfl rfl) rfl rfl ?_
 refine y_val (r_assign (v := .bool _) rfl rfl) rfl rfl ?_
 refine y_end ?_
 intro W hW
 refine n_then (c_ret ?_)
 refine ret_tmp (v := .bool (specN s.d v)) rfl ?_ ⟨rfl, hW.below⟩
 exact congrArg Value.bool (by rw [Bool.eq_iff_iff]; simp only [decide_eq_true_eq, specN, Nat.beq_eq] <;> omega)

set_option maxRecDepth 10000 in
/-- (headend/cover.node).toward -/
theorem g_ptoward (v y : Nat) (hv : 0 < v) (hv2 : v < 128) (hy : 0 < y) (hy2 : y < 128) (h : lev v < lev y) : Gives Tryz.prog 110 [.int .i64 (v : Int), .int .i64 (y : Int)].toArray (.int .i64 ((sh y (lev y - lev v - 1) : Nat) : Int)) := by
 refine gives_of Tryz.func110 rfl (bs := [.int .i64 (v : Int), .int .i64 (y : Int), undef, undef, undef, undef, undef, undef, undef, undef, undef, undef, undef]) rfl ?_
 intro w hW
 have l1 := lev_le hy2
 refine c_seq (c_reg ?_)
 refine bI ?_
 refine l_end (n_then (c_seq (c_reg ?_)))
 refine aI ?_
 refine aI ?_
 refine l_call hW (g_plevel _ (by omega) (by omega)) en102 rfl rfl rfl rfl ?_
 intro W hW
 refine aI ?_
 refine l_call hW (g_plevel _ (by omega) (by omega)) en102 rfl rfl rfl rfl ?_
 intro W hW
 refine l_val (r_subN rfl rfl rfl (by omega) (by omega)) rfl rfl ?_
 refine l_val (r_subN (n := 1) rfl rfl rfl (by omega) (by omega)) rfl rfl ?_
 refine l_val (r_shr_i64N (n := y) (s := lev y - lev v - 1) rfl rfl rfl (by omega)) rfl rfl ?_
 refine bI ?_
 refine l_end (n_then (c_ret ?_))
 refine ret_tmp (v := .int .i64 ((sh y (lev y - lev v - 1) : Nat) : Int)) rfl ?_ ⟨rfl, hW.below⟩
 exact congrArg (fun n : Nat => Value.int .i64 (n : Int)) (sh_eq _ _).symm

set_option maxRecDepth 10000 in
/-- (headend/cover.node).below -/
theorem g_pbelow0 (y : Nat) (hy : 0 < y) : Gives Tryz.prog 114 [.int .i64 (y : Int), .int .i64 0].toArray (.bool false) := by
 refine gives_of Tryz.func114 rfl (bs := [.int .i64 (y : Int), .int .i64 0, undef, undef, undef, undef, undef, undef, undef, undef, undef, undef, undef, undef, undef, undef, undef, undef, undef, undef, undef, undef, undef, undef, undef, undef, undef]) rfl ?_
 intro w hW
 refine c_seq (c_reg ?_)
 refine bB ?_
 refine l_end (n_then (c_seq (c_seq (c_reg ?_))))
 refine aI ?_
 refine l_val (r_lssN (n := 1) rfl rfl rfl rfl) rfl rfl ?_
 refine l_split ?_ ?_
 ·intro hc1
  replace hc1 := of_decide_eq_true hc1
  omega
 ·intro hc1
  replace hc1 := of_decide_eq_false hc1
  refine aB ?_
  refine gI ?_
  refine l_valG (r_lss (b := true) rfl rfl rfl (by decide)) (by kernel_rfl) rfl ?_
  refine kB ?_
  refine aB ?_
  refine lN ?_
  refine lN ?_
  refine lN ?_
  refine lN ?_
  refine lN ?_
  refine kB ?_
  refine l_end (n_then ?_)
  refine c_true rfl ?_
  refine c_seq (c_reg ?_)
  refine bB ?_
  refine l_end (n_then (c_ret (r_then ?_)))
  refine ret_tmp (v := .bool false) rfl ?_ ⟨rfl, hW.below⟩
  rfl

/-- below, of whole numbers -/
theorem g_pbelowZ (y : Nat) (v : Int) (hy : 0 < y) (hy2 : y < 128) (hv : 0 ≤ v) (hv2 : v < 128) : Gives Tryz.prog 114 [.int .i64 (y : Int), .int .i64 v].toArray (.bool (!decide (v = 0) && belowN y v.toNat)) := by
 by_cases h : v = 0
 ·subst h
  exact g_pbelow0 y hy
 ·obtain ⟨v', rfl⟩ : ∃ n : Nat, v = n := ⟨v.toNat, by omega⟩
  rw [decide_eq_false h]
  exact g_pbelow y v' hy hy2 (by omega) (by omega)
set_option maxRecDepth 10000 in
/-- (headend/cover.tree).member -/
theorem g_pmember (s : Sc) (v x : Int) (u : Nat) (h0 : 0 ≤ s.d) (h6 : s.d ≤ 6) (hv : 1 ≤ v) (hv2 : v < 128) (hx0 : 0 ≤ x) (hx2 : x < 128) (hu : u < p2 s.d.toNat) : Gives Tryz.prog 133 [.agg [.int .u8 s.k, .int .i64 s.d, .int .i64 (strideN s.d : Int)].toArray, .agg [.int .i64 v, .int .i64 x].toArray, .int .i64 (u : Int)].toArray (.bool (memB s v x u)) := by
 refine gives_of Tryz.func133 rfl (bs := [.agg [.int .u8 s.k, .int .i64 s.d, .int .i64 (strideN s.d : Int)].toArray, .agg [.int .i64 v, .int .i64 x].toArray, .int .i64 (u : Int), undef, undef, undef, undef, undef, undef, undef, undef, undef, undef, undef, undef, undef, undef, undef, undef, undef, undef, undef]) rfl ?_
 intro w hW
 have hp := p2_le (n := s.d.toNat) (by omega)
 have hp0 := p2_pos s.d.toNat
 refine c_seq (c_reg ?_)
 refine xB hW ?_
 intro g1 W hW
 refine xB hW ?_
 intro g2 W hW
 refine bB ?_
 refine l_end (n_then (c_seq (c_reg ?_)))
 refine dA hW 1 tyA106 ?_
 refine aI ?_
 refine l_call hW (g_pleaf s u (by omega) (by omega) (by omega)) en53 rfl rfl rfl rfl ?_
 intro W hW
 refine bI ?_
 refine l_end (n_then (c_seq (c_reg ?_)))
 refine aI ?_
 refine l_val (r_fieldAddr 0 Tryz.underlying64 rfl tyC3.size rfl rfl rfl) rfl rfl ?_
 refine dC hW 0 tyC3 ?_
 refine l_call hW (g_pbelowZ (p2 s.d.toNat + u) v (by omega) (by omega) (by omega) (by omega)) en114 rfl rfl rfl rfl ?_
 intro W hW
 refine l_split ?_ ?_
 ·intro hc1
  refine aB ?_
  refine gI ?_
  refine l_valG (r_fieldAddr 1 Tryz.underlying64 rfl tyC3.size rfl rfl rfl) (by kernel_rfl) rfl ?_
  refine dG hW 0 tyC3 ?_
  refine l_callG hW (g_pbelowZ (p2 s.d.toNat + u) x (by omega) (by omega) (by omega) (by omega)) en114 (by kernel_rfl) rfl rfl rfl ?_
  intro W hW
  refine l_valG (r_not rfl rfl) (by kernel_rfl) rfl ?_
  refine kB ?_
  refine bB ?_
  refine l_end (n_then (c_ret ?_))
  refine ret_tmp (v := .bool (memB s v x u)) rfl ?_ ⟨rfl, hW.below⟩
  rw [decide_eq_false (show ¬ v = 0 by omega)] at hc1
  exact congrArg Value.bool (by rw [memB, show belowN (p2 s.d.toNat + u) v.toNat = true from hc1]; cases decide (x = 0) <;> simp)
 ·intro hc1
  refine aB ?_
  refine lN ?_
  refine lN ?_
  refine lN ?_
  refine lN ?_
  refine lN ?_
  refine kB ?_
  refine bB ?_
  refine l_end (n_then (c_ret ?_))
  refine ret_tmp (v := .bool (memB s v x u)) rfl ?_ ⟨rfl, hW.below⟩
  rw [decide_eq_false (show ¬ v = 0 by omega)] at hc1
  exact congrArg Value.bool (by rw [memB, show belowN (p2 s.d.toNat + u) v.toNat = false from hc1]; rfl)

set_option maxRecDepth 10000 in
/-- (headend/cover.tree).members -/
theorem g_pmembers (s : Sc) (v x : Int) (h0 : 0 ≤ s.d) (h6 : s.d ≤ 6) (hv : 1 ≤ v) (hv2 : v < 128) (hx0 : 0 ≤ x) (hx2 : x < 128) : GivesX Tryz.prog 89 [.agg [.int .u8 s.k, .int .i64 s.d, .int .i64 (strideN s.d : Int)].toArray, .agg [.int .i64 v, .int .i64 x].toArray].toArray (fun _ => True) (NewSl 3 1 (membersN s v x (p2 s.d.toNat)).length (il (membersN s v x (p2 s.d.toNat)))) := by
 refine givesX_of Tryz.func89 rfl (bs := [.agg [.int .u8 s.k, .int .i64 s.d, .int .i64 (strideN s.d : Int)].toArray, .agg [.int .i64 v, .int .i64 x].toArray, undef, undef, undef, undef, undef, undef, undef, undef, undef, undef, undef, undef, undef, undef, undef, undef, undef, undef, undef, undef]) rfl ?_
 intro w hP hW
 have hp := p2_le (n := s.d.toNat) (by omega)
 refine c_seq (c_reg ?_)
 refine xB hW ?_
 intro g1 W hW
 refine xB hW ?_
 intro g2 W hW
 refine bS ?_
 refine l_end (n_then (c_seq (c_reg ?_)))
 refine bS ?_
 refine l_end (n_then (c_seq (c_seq (c_reg ?_))))
 refine dA hW 1 tyA106 ?_
 refine l_call hW (g_psize s (by omega) (by omega)) en99 rfl rfl rfl rfl ?_
 intro W hW
 refine aI ?_
 refine l_end (n_then (c_block ?_))
 refine c_loop (fun (z : Nat × Option Addr × Nat × List Blk × Nat) (j : Nat → Value) => [.agg [.int .u8 s.k, .int .i64 s.d, .int .i64 (strideN s.d : Int)].toArray, .agg [.int .i64 v, .int .i64 x].toArray, .pointer (some ⟨g1, 0, none⟩), .pointer (some ⟨g2, 0, none⟩), j 4, .slice z.2.1 z.2.2.2.2 z.2.2.1, j 6, .agg ([.int .u8 s.k, .int .i64 s.d, .int .i64 (strideN s.d : Int)]).toArray, .int .i64 ((p2 s.d.toNat : Nat) : Int), .int .i64 (z.1 : Int), j 10, j 11, j 12, j 13, j 14, j 15, j 16, j 17, j 18, j 19, j 20, j 21]) (fun (z : Nat × Option Addr × Nat × List Blk × Nat) => [⟨g2, [.int .i64 v, .int .i64 x], 64⟩, ⟨g1, [.int .u8 s.k, .int .i64 s.d, .int .i64 (strideN s.d : Int)], 106⟩] ++ z.2.2.2.1) (fun (z : Nat × Option Addr × Nat × List Blk × Nat) => z.1 ≤ p2 s.d.toNat ∧ z.2.2.2.2 = (membersN s v x z.1).length ∧ OwnSl 3 1 z.2.1 z.2.2.2.2 z.2.2.1 (il (membersN s v x z.1)) z.2.2.2.1) (fun (z : Nat × Option Addr × Nat × List Blk × Nat) => p2 s.d.toNat - z.1) (0, none, 0, [], 0) (by kernel_rfl) (by simpa using hW) ⟨Nat.zero_le _, rfl, OwnSl.nil 3 1⟩ ?_
 intro z j W hx hW
 obtain ⟨hz, hzn, hO⟩ := hx
 refine c_seq (c_reg ?_)
 refine l_val (r_lssN rfl rfl rfl rfl) rfl rfl ?_
 refine l_split ?_ ?_
 ·intro hc1
  replace hc1 := of_decide_eq_true hc1
  refine l_end (n_then (c_seq ?_))
  refine c_true rfl ?_
  refine c_skip (n_then (c_seq (c_block (c_seq (c_reg ?_)))))
  refine aI ?_
  refine bI ?_
  refine l_end (n_then (c_seq (c_reg ?_)))
  refine dA hW 1 tyA106 ?_
  refine dA hW 0 tyA64 ?_
  refine aI ?_
  refine l_call hW (g_pmember s v x z.1 h0 h6 hv hv2 hx0 hx2 (by omega)) en133 rfl rfl rfl rfl ?_
  intro W hW
  refine l_split ?_ ?_
  ·intro hc2
   have hmx := mem_yes hc2
   have hyes := hc2
   have hml := mem_len s v x (z.1 + 1)
   refine l_end (n_then ?_)
   refine c_true rfl ?_
   refine c_reg ?_
   refine aS ?_
   refine aI ?_
   refine l_buildSliceF hW (bsl27_1_0 _) rfl rfl rfl rfl ?_
   intro gb W hW
   refine l_appendB tyE27 (L := [_, _, _]) hO hW 0 (N := (membersN s v x (z.1 + 1)).length) (by rw [mem_yes hyes, List.length_append]; simp only [List.length_cons, List.length_nil]; omega) rfl rfl rfl rfl rfl rfl rfl (by simp [Value.oneCell']) (by unfold maxLen; omega) (by omega) ?_
   intro a1 c1 Bs1 W hO1 hW
   replace hO1 := hO1.castx rfl (xs' := il (membersN s v x (z.1 + 1))) (by rw [mem_yes hyes, il_append]; rfl)
   refine bS ?_
   refine l_end (n_block (n_then (c_reg ?_)))
   refine l_val (r_addN (n := 1) rfl rfl rfl (by omega)) rfl rfl ?_
   refine aI ?_
   refine l_end (n_then ?_)
   exact loop_next (z.1 + 1, a1, c1, Bs1, (membersN s v x (z.1 + 1)).length) (by kernel_rfl) (hW.drop 1) ⟨by simp only; omega, rfl, hO1⟩ (by simp only; omega)
  ·intro hc2
   have hmx := mem_no hc2
   refine l_end (n_then ?_)
   refine c_false rfl ?_
   refine c_skip (n_block (n_then (c_reg ?_)))
   refine l_val (r_addN (n := 1) rfl rfl rfl (by omega)) rfl rfl ?_
   refine aI ?_
   refine l_end (n_then ?_)
   exact loop_next (z.1 + 1, z.2.1, z.2.2.1, z.2.2.2.1, z.2.2.2.2) (by kernel_rfl) hW ⟨by simp only; omega, by simp only [hmx]; exact hzn, by simp only [hmx]; exact hO⟩ (by simp only; omega)
 ·intro hc1
  replace hc1 := of_decide_eq_false hc1
  refine l_end (n_then (c_seq ?_))
  refine c_false rfl ?_
  refine c_exit (x_then (x_then ?_))
  refine x_hit ?_
  refine n_then (c_seq (c_reg ?_))
  refine aS ?_
  refine bS ?_
  refine l_end (n_then (c_ret ?_))
  refine ret_tmp (v := .slice _ _ _) rfl rfl ?_
  have e : z.1 = p2 s.d.toNat := by omega
  rw [← e, ← hzn]
  exact ⟨_, _, rfl, ⟨_, _, rfl, hO⟩, hW.sub (List.sublist_append_right _ _)⟩

end Go.Proofs.YtoegpalacppllaaGreat

/- Paths, by the program. -/
namespace Go.Proofs.YtoegpalacppllaaGreat
open Go.RowKit Pl
open Tr Hn
/-- the first special node of a path -/
theorem bet_first (d : Int) (w : Nat) : ∀ n, ∃ k, k ≤ n ∧ (∀ i, i < k → specN d (sh w (n - i)) = false) ∧ (k < n → specN d (sh w (n - k)) = true) ∧ bet d w n = if k < n then sh w (n - k) else 0
 | 0 => ⟨0, Nat.le_refl _, fun i hi => by omega, fun h => by omega, rfl⟩
 | n + 1 => by
  cases h : specN d (sh w (n + 1)) with
  | true => exact ⟨0, Nat.zero_le _, fun i hi => by omega, fun _ => h, by rw [bet, if_pos h, if_pos (by omega)]; rfl⟩
  | false =>
   obtain ⟨k, h1, h2, h3, h4⟩ := bet_first d w n
   refine ⟨k + 1, by omega, fun i hi => ?_, fun hk => ?_, ?_⟩
   ·cases i with
    | zero => exact h
    | succ i => rw [show n + 1 - (i + 1) = n - i by omega]; exact h2 i (by omega)
   ·rw [show n + 1 - (k + 1) = n - k by omega]; exact h3 (by omega)
   ·rw [bet, if_neg (by rw [h]; decide), h4, show n + 1 - (k + 1) = n - k by omega]
    by_cases hk : k < n
    ·rw [if_pos hk, if_pos (by omega)]
    ·rw [if_neg hk, if_neg (by omega)]
set_option maxRecDepth 10000 in
/-- headend/cover.path$1 -/
theorem j_path {w : World} (y n gf gt : Nat) (h0 : 0 < y) (hy : y < 128) (hn : n ≤ lev y) (hP : w.cell? ⟨gf, 0, none⟩ = some (.int .i64 ((sh y n : Nat) : Int)) ∧ w.cell? ⟨gt, 0, none⟩ = some (.int .i64 (y : Int))) : IterS Tryz.prog w 137 #[.pointer (some ⟨gf, 0, none⟩), .pointer (some ⟨gt, 0, none⟩)] n (fun i => #[.int .i64 ((sh y (n - (i + 1)) : Nat) : Int)]) := by
 refine iterS_of (lb := [.pointer (some ⟨gf, 0, none⟩), .pointer (some ⟨gt, 0, none⟩)]) (F := fun l => [.func (.yield l) #[] #[], .pointer (some ⟨gf, 0, none⟩), .pointer (some ⟨gt, 0, none⟩), undef, undef, undef, undef, undef, undef, undef, undef, undef, undef, undef, undef, undef]) Tryz.func137 rfl (fun l => rfl) ?_
 intro r l k J Z L0 W hk hY hZ hJ hW
 refine c_seq (c_reg ?_)
 refine l_loadF hW tyC111 (v := .int .i64 ((sh y n : Nat) : Int)) hP.1 rfl rfl rfl rfl ?_
 refine bI ?_
 refine l_end (n_then (c_block ?_))
 refine c_loop (fun (x : Nat × List Blk) (j : Nat → Value) => [.func (.yield l) #[] #[], .pointer (some ⟨gf, 0, none⟩), .pointer (some ⟨gt, 0, none⟩), j 3, .int .i64 ((sh y (n - x.1) : Nat) : Int), .int .i64 ((sh y n : Nat) : Int), j 6, j 7, j 8, j 9, j 10, j 11, j 12, j 13, j 14, j 15]) (fun (x : Nat × List Blk) => [] ++ x.2) (fun (x : Nat × List Blk) => x.1 ≤ k ∧ J x.1 x.2) (fun (x : Nat × List Blk) => k - x.1) (0, L0) (by kernel_rfl) hW ⟨Nat.zero_le _, hJ⟩ ?_
 intro x j W hx hW
 obtain ⟨hx, hJx⟩ := hx
 have hlv := sh_lev hy (i := n - x.1) (by omega)
 have hle := sh_le y (n - x.1)
 have hpos : 0 < sh y (n - x.1) := sh_pos h0 hy (by omega)
 refine c_seq (c_seq (c_reg ?_))
 refine aI ?_
 refine l_loadF hW tyC111 (v := .int .i64 (y : Int)) hP.2 rfl rfl rfl rfl ?_
 refine l_val (r_neqN rfl rfl rfl rfl) rfl rfl ?_
 refine l_split ?_ ?_
 ·intro hc1
  replace hc1 := of_decide_eq_true hc1
  have hlt : x.1 < n := Nat.lt_of_le_of_ne (by omega) fun e => hc1 (by rw [e, Nat.sub_self]; rfl)
  refine l_end (n_then ?_)
  refine c_true rfl ?_
  refine c_skip (n_then (c_block (c_seq (c_reg ?_))))
  refine aI ?_
  refine l_loadF hW tyC111 (v := .int .i64 (y : Int)) hP.2 rfl rfl rfl rfl ?_
  refine l_call hW (g_ptoward (sh y (n - x.1)) y hpos (by omega) h0 hy (by omega)) en110 rfl rfl rfl rfl ?_
  intro W hW
  rw [show lev y - lev (sh y (n - x.1)) - 1 = n - (x.1 + 1) by omega]
  refine bI ?_
  refine l_end (n_then (c_seq (c_reg ?_)))
  refine l_val (r_move (v := .func _ _ _) rfl rfl) rfl rfl ?_
  refine aI ?_
  have hYY : YieldAt Fence.wide 0 Tryz.prog l #[.int .i64 ((sh y (n - (x.1 + 1)) : Nat) : Int)] W (fun e W' => e = .returned (.bool (decide (x.1 < k))) ∧ ((x.1 < k ∧ ∃ Lc', J (x.1 + 1) Lc' ∧ Cl ⟨w, r⟩ Lc' W') ∨ (¬ x.1 < k ∧ Z W'))) := by
   by_cases hlk : x.1 < k
   ·obtain ⟨f1, f2, f3, f4, f5, f6⟩ := hY x.1 x.2 W hlk hJx hW
    exact ⟨f1, f2, f3, f4, f5, f6.mono fun e W' ⟨h1, h2⟩ => ⟨by rw [h1, decide_eq_true hlk], .inl ⟨hlk, h2⟩⟩⟩
   ·obtain rfl : x.1 = k := by omega
    obtain ⟨f1, f2, f3, f4, f5, f6⟩ := hZ x.2 W hlt hJx hW
    exact ⟨f1, f2, f3, f4, f5, f6.mono fun e W' ⟨h1, h2⟩ => ⟨by rw [h1, decide_eq_false hlk], .inr ⟨hlk, h2⟩⟩⟩
  refine l_yieldS hYY rfl rfl rfl rfl rfl ?_
  intro W hR
  refine l_split ?_ ?_
  ·intro hc2
   have hlk : x.1 < k := of_decide_eq_true hc2
   obtain ⟨Lc1, hJ1, hW⟩ : ∃ Lc', J (x.1 + 1) Lc' ∧ Cl ⟨w, r⟩ Lc' W := by
    rcases hR with ⟨-, h⟩ | ⟨h, -⟩
    ·exact h
    ·omega
   refine l_val (r_not rfl rfl) rfl rfl ?_
   refine l_end (n_then ?_)
   refine c_false rfl ?_
   refine c_skip (n_block (n_then ?_))
   exact loop_next (x.1 + 1, Lc1) (by kernel_rfl) hW ⟨by simp only; omega, hJ1⟩ (by simp only; omega)
  ·intro hc2
   have hlk : ¬ x.1 < k := of_decide_eq_false hc2
   have hZ1 : Z W := by
    rcases hR with ⟨h, -⟩ | ⟨-, h⟩
    ·omega
    ·exact h
   refine l_val (r_not rfl rfl) rfl rfl ?_
   refine l_end (n_then ?_)
   refine c_true rfl ?_
   refine c_ret (r_block (r_then (r_block ?_)))
   refine postM_of ?_
   refine ret_none rfl ?_
   exact ⟨⟨_, rfl⟩, .inr ⟨by omega, hZ1⟩⟩
 ·intro hc1
  replace hc1 := of_decide_eq_false hc1
  have hxn : x.1 = n := Classical.byContradiction fun hne => by rw [show sh y (n - x.1) = y by omega] at hlv; omega
  refine l_end (n_then ?_)
  refine c_false rfl ?_
  refine c_exit (x_then (x_then ?_))
  refine x_hit ?_
  refine postM_of ?_
  refine end_none rfl ?_
  exact ⟨⟨_, rfl⟩, .inl ⟨by omega, x.2, hxn ▸ hJx, hW⟩⟩

end Go.Proofs.YtoegpalacppllaaGreat

/- Cuts, by the program. -/
namespace Go.Proofs.YtoegpalacppllaaGreat
open Go.RowKit Pl
open Tr Hn
set_option maxRecDepth 10000 in
/-- headend/cover.path -/
theorem g_ppath (v y : Nat) : GivesX Tryz.prog 101 [.int .i64 (v : Int), .int .i64 (y : Int)].toArray (fun _ => True) (fun u Bs => ∃ g1 g2, u = .func (.func 137) #[] #[.pointer (some ⟨g1, 0, none⟩), .pointer (some ⟨g2, 0, none⟩)] ∧ Bs = [⟨g2, [.int .i64 (y : Int)], 111⟩, ⟨g1, [.int .i64 (v : Int)], 111⟩]) := by
 refine givesX_of Tryz.func101 rfl (bs := [.int .i64 (v : Int), .int .i64 (y : Int), undef, undef, undef, undef]) rfl ?_
 intro w hP hW
 refine c_seq (c_reg ?_)
 refine l_boxC hW (v := .int _ _) rfl rfl rfl rfl rfl ?_
 intro g1 W hW
 refine l_boxC hW (v := .int _ _) rfl rfl rfl rfl rfl ?_
 intro g2 W hW
 refine l_val (r_assign (v := .nilFunc) rfl rfl) rfl rfl ?_
 refine l_end (n_then (c_seq (c_reg ?_)))
 refine l_val (r_closure (vs := [.pointer (some ⟨g1, 0, none⟩), .pointer (some ⟨g2, 0, none⟩)]) rfl rfl) rfl rfl ?_
 refine l_val (r_assign (v := .func _ _ _) rfl rfl) rfl rfl ?_
 refine l_end (n_then (c_ret ?_))
 refine ret_tmp (v := .func _ _ _) rfl rfl ?_
 exact ⟨_, _, rfl, ⟨_, _, rfl, rfl⟩, hW⟩

set_option maxRecDepth 10000 in
/-- headend/cover.first -/
theorem g_pfirstX (s : Sc) (z n gf gt : Nat) (z0 : 1 < z) (zz : z < 128) (hn : n ≤ lev (sh z 1)) : GivesX Tryz.prog 100 [.func (.func 137) #[] #[.pointer (some ⟨gf, 0, none⟩), .pointer (some ⟨gt, 0, none⟩)], .func (.func 57) #[.agg [.int .u8 s.k, .int .i64 s.d, .int .i64 (strideN s.d : Int)].toArray] #[]].toArray (fun w => w.cell? ⟨gf, 0, none⟩ = some (.int .i64 ((sh (sh z 1) n : Nat) : Int)) ∧ w.cell? ⟨gt, 0, none⟩ = some (.int .i64 ((sh z 1 : Nat) : Int))) (fun v Bs => v = .int .i64 ((bet s.d z n : Nat) : Int) ∧ Bs = []) := by
 refine givesXM_of Tryz.func100 rfl (bs := [.func (.func 137) #[] #[.pointer (some ⟨gf, 0, none⟩), .pointer (some ⟨gt, 0, none⟩)], .func (.func 57) #[.agg [.int .u8 s.k, .int .i64 s.d, .int .i64 (strideN s.d : Int)].toArray] #[], undef, undef, undef, undef, undef, undef, undef, undef, undef, undef]) rfl ?_
 intro w hP hW
 obtain ⟨k, hkn0, hk1, hk2, hk3⟩ := bet_first s.d z n
 have hz1 : 0 < sh z 1 := by show 0 < z / 2; omega
 have hz2 : sh z 1 < 128 := by show z / 2 < 128; omega
 have hnd : ∀ i, i < n → sh z (n - i) = sh (sh z 1) (n - (i + 1)) := fun i hi => by rw [sh_add]; congr 1; omega
 refine c_seq (c_reg ?_)
 refine l_boxC hW (v := .func _ _ _) rfl rfl rfl rfl rfl ?_
 intro g1 W hW
 refine l_allocC hW tyZ111 rfl rfl rfl rfl ?_
 intro g2 W hW
 refine l_end (n_then (c_seq (c_seq (c_reg ?_))))
 refine l_val (r_move (v := .func _ _ _) rfl rfl) rfl rfl ?_
 refine l_end (n_then (c_block ?_))
 refine c_rangeS (j_path (sh z 1) n gf gt hz1 hz2 hn hP) hkn0 en137 rfl (fun _ => rfl) (fun _ Lc => Lc = [⟨g2, [z111], 111⟩, ⟨g1, [.func (.func 57) #[.agg [.int .u8 s.k, .int .i64 s.d, .int .i64 (strideN s.d : Int)].toArray] #[]], 117⟩]) (fun Lc => Lc = [⟨g2, [.int .i64 ((sh (sh z 1) (n - (k + 1)) : Nat) : Int)], 111⟩, ⟨g1, [.func (.func 57) #[.agg [.int .u8 s.k, .int .i64 s.d, .int .i64 (strideN s.d : Int)].toArray] #[]], 117⟩]) rfl hW (fun (i : Nat) => fr [.func (.func 137) #[] #[.pointer (some ⟨gf, 0, none⟩), .pointer (some ⟨gt, 0, none⟩)], .func (.func 57) #[.agg [.int .u8 s.k, .int .i64 s.d, .int .i64 (strideN s.d : Int)].toArray] #[], undef, .pointer (some ⟨g1, 0, none⟩), .pointer (some ⟨g2, 0, none⟩), .int .i64 ((sh (sh z 1) (n - (i + 1)) : Nat) : Int), .func (.func 137) #[] #[.pointer (some ⟨gf, 0, none⟩), .pointer (some ⟨gt, 0, none⟩)], .int .i64 ((sh (sh z 1) (n - (i + 1)) : Nat) : Int), undef, undef, undef, undef] [] []) (fun (i : Nat) => [.func (.func 137) #[] #[.pointer (some ⟨gf, 0, none⟩), .pointer (some ⟨gt, 0, none⟩)], .func (.func 57) #[.agg [.int .u8 s.k, .int .i64 s.d, .int .i64 (strideN s.d : Int)].toArray] #[], undef, .pointer (some ⟨g1, 0, none⟩), .pointer (some ⟨g2, 0, none⟩), undef, .func (.func 137) #[] #[.pointer (some ⟨gf, 0, none⟩), .pointer (some ⟨gt, 0, none⟩)], .int .i64 ((sh (sh z 1) (n - (i + 1)) : Nat) : Int), undef, undef, undef, undef]) (fun _ => by kernel_rfl) ?_ ?_ ?_ ?_ ?_
 ·intro lq i W
  refine c_reg ?_
  refine bI ?_
  refine l_end ?_
  refine n_then ⟨?_, rfl⟩
  exact congrArg (fun x => (fr x [] [] : Act)) (by kernel_rfl)
 ·intro l r i Lc W hi hJ hW
  subst hJ
  refine c_block (c_seq (c_reg ?_))
  refine dC hW 1 tyC117 ?_
  refine aI ?_
  refine l_callB hW (bnd := [.agg [.int .u8 s.k, .int .i64 s.d, .int .i64 (strideN s.d : Int)].toArray]) (args := [.int .i64 ((sh (sh z 1) (n - (i + 1)) : Nat) : Int)]) (g_pspecial s (sh (sh z 1) (n - (i + 1))) (sh_pos hz1 hz2 (by omega)) (Nat.lt_of_le_of_lt (sh_le _ _) hz2)) en57 rfl rfl rfl rfl rfl ?_
  intro W hW
  rw [show specN s.d (sh (sh z 1) (n - (i + 1))) = false from (hnd i (by omega)) ▸ hk1 i (by omega)]
  refine l_end (n_then ?_)
  refine c_false rfl ?_
  refine c_skip (n_block ?_)
  exact ⟨rfl, _, rfl, hW⟩
 ·intro l r Lc W hi hJ hW
  subst hJ
  refine c_block (c_seq (c_reg ?_))
  refine dC hW 1 tyC117 ?_
  refine aI ?_
  refine l_callB hW (bnd := [.agg [.int .u8 s.k, .int .i64 s.d, .int .i64 (strideN s.d : Int)].toArray]) (args := [.int .i64 ((sh (sh z 1) (n - (k + 1)) : Nat) : Int)]) (g_pspecial s (sh (sh z 1) (n - (k + 1))) (sh_pos hz1 hz2 (by omega)) (Nat.lt_of_le_of_lt (sh_le _ _) hz2)) en57 rfl rfl rfl rfl rfl ?_
  intro W hW
  rw [show specN s.d (sh (sh z 1) (n - (k + 1))) = true from (hnd k (by omega)) ▸ hk2 (by omega)]
  refine l_end (n_then ?_)
  refine c_true rfl ?_
  refine c_seq (c_reg ?_)
  refine aI ?_
  refine l_storeC hW 0 tyC111 (v := .int _ _) rfl rfl rfl rfl rfl rfl (by first | rfl | omega | (simp; done) | (simp; omega)) rfl ?_
  intro W hW
  refine l_end (n_then (c_ret (r_block ?_)))
  exact ⟨rfl, _, rfl, hW⟩
 ·intro D r Lc W hkn hDb hJ hW hD
  subst hJ
  refine n_block (n_then (c_seq (c_reg ?_)))
  refine l_storeC hW 0 tyC111 (v := .int _ _) rfl rfl rfl rfl rfl rfl (by first | rfl | omega | (simp; done) | (simp; omega)) rfl ?_
  intro W hW
  refine l_end (n_then (c_ret ?_))
  refine r_mark hW hDb hD ?_
  intro r W hW
  refine ret_cellC hW 0 tyC111 rfl rfl rfl ?_
  exact ⟨_, [], rfl, ⟨by rw [hk3, if_neg (by omega)]; rfl, rfl⟩, (hW.tobase).sub (List.nil_sublist _)⟩
 ·intro D r Lc W hkn hDb hJ hW hD
  subst hJ
  refine r_block (r_then ?_)
  refine r_mark hW hDb hD ?_
  intro r W hW
  refine ret_cellC hW 0 tyC111 rfl rfl rfl ?_
  exact ⟨_, [], rfl, ⟨by rw [hk3, if_pos hkn, hnd k hkn], rfl⟩, (hW.tobase).sub (List.nil_sublist _)⟩

theorem g_pfirst (s : Sc) (z n gf gt : Nat) (z0 : 1 < z) (zz : z < 128) (hn : n ≤ lev (sh z 1)) : GivesR Tryz.prog 100 [.func (.func 137) #[] #[.pointer (some ⟨gf, 0, none⟩), .pointer (some ⟨gt, 0, none⟩)], .func (.func 57) #[.agg [.int .u8 s.k, .int .i64 s.d, .int .i64 (strideN s.d : Int)].toArray] #[]].toArray (fun w => w.cell? ⟨gf, 0, none⟩ = some (.int .i64 ((sh (sh z 1) n : Nat) : Int)) ∧ w.cell? ⟨gt, 0, none⟩ = some (.int .i64 ((sh z 1 : Nat) : Int))) (.int .i64 ((bet s.d z n : Nat) : Int)) := fun w hp =>
 (g_pfirstX s z n gf gt z0 zz hn w hp).mono fun e w' ⟨v, Bs, he, ⟨hv, hb⟩, hC⟩ => ⟨by rw [he, hv], hC.below⟩
set_option maxRecDepth 10000 in
/-- (headend/cover.tree).cut -/
theorem g_pcut (s : Sc) (v z : Nat) (hz : 1 < z) (hz2 : z < 128) (hb : belowN z v = true) (hne : lev v < lev z) : Gives Tryz.prog 56 [.agg [.int .u8 s.k, .int .i64 s.d, .int .i64 (strideN s.d : Int)].toArray, .int .i64 (v : Int), .int .i64 (z : Int)].toArray (.int .i64 ((bet s.d z (lev z - lev v - 1) : Nat) : Int)) := by
 refine gives_of Tryz.func56 rfl (bs := [.agg [.int .u8 s.k, .int .i64 s.d, .int .i64 (strideN s.d : Int)].toArray, .int .i64 (v : Int), .int .i64 (z : Int), undef, undef, undef, undef, undef, undef, undef, undef, undef, undef, undef]) rfl ?_
 intro w hW
 have hb2 := (below_iff.1 hb).2
 have hlz : lev (sh z 1) = lev z - 1 := sh_lev hz2 (by omega)
 have hvs : v = sh (sh z 1) (lev z - lev v - 1) := by rw [sh_add, show 1 + (lev z - lev v - 1) = lev z - lev v by omega]; exact hb2.symm
 refine c_seq (c_reg ?_)
 refine xB hW ?_
 intro g1 W hW
 refine bI ?_
 refine l_end (n_then (c_seq ?_))
 refine c_regM hW [] [.q, .q, .q, .mk 0, .q, .q, .rd 0, .q] [⟨10, fun _ u Bs => ∃ g1 g2, u = .func (.func 137) #[] #[.pointer (some ⟨g1, 0, none⟩), .pointer (some ⟨g2, 0, none⟩)] ∧ Bs = [⟨g2, [.int .i64 ((z / 2 ^ 1 : Nat) : Int)], 111⟩, ⟨g1, [.int .i64 (v : Int)], 111⟩]⟩] [[]] [3] [0, 0, 2, 7, 0, 16, 63, 127] (by kernel_rfl) (by kernel_rfl) rfl (by kernel_rfl) ?_
 refine yI ?_
 refine yI ?_
 refine y_val (r_shr_i64N (n := z) (s := 1) rfl rfl rfl (by omega)) rfl rfl ?_
 refine y_callX 0 (g_ppath v (z / 2 ^ 1)) en101 rfl rfl (fun _ _ _ _ => trivial) rfl rfl ?_
 refine y_loadA 0 tyA106 rfl rfl rfl rfl rfl (by first | rfl | exact kc_len _ | exact kcf_len _ | exact boC_len _ _ | (simp; done)) (by decide) ?_
 refine y_val (r_bound (vs := [.agg [.int .u8 s.k, .int .i64 s.d, .int .i64 (strideN s.d : Int)].toArray]) rfl rfl) rfl rfl ?_
 refine y_callRd (v := .int .i64 ((bet s.d z (lev z - lev v - 1) : Nat) : Int)) 0 rfl rfl ?_ en100 rfl rfl rfl ?_
 ·rintro _ Bs ⟨ga, gb, rfl, rfl⟩
  exact ⟨_, _, g_pfirst s z (lev z - lev v - 1) ga gb hz hz2 (by omega), fun M w hC => ⟨(cell_at ((hC.sub (List.sublist_append_right M _)).holds ⟨ga, [.int .i64 (v : Int)], 111⟩ (by simp)) 0).trans (by rw [← hvs]; rfl), (cell_at ((hC.sub (List.sublist_append_right M _)).holds ⟨gb, [.int .i64 ((z / 2 ^ 1 : Nat) : Int)], 111⟩ (by simp)) 0).trans rfl⟩, rfl⟩
 refine y_val (r_assign (v := .int _ _) rfl rfl) rfl rfl ?_
 refine y_end ?_
 refine y_made ?_
 rintro _ Bs1 -
 intro W hW
 refine n_then (c_ret ?_)
 refine ret_tmp (v := .int .i64 ((bet s.d z (lev z - lev v - 1) : Nat) : Int)) rfl ?_ ⟨rfl, hW.below⟩
 rfl

end Go.Proofs.YtoegpalacppllaaGreat

/- Subsets, by the program. -/
namespace Go.Proofs.YtoegpalacppllaaGreat
open Go.RowKit Pl
open Tr Hn
theorem g_pbelowZZ (y : Int) (v : Int) (hy : 0 < y) (hy2 : y < 128) (hv : 0 < v) (hv2 : v < 128) : Gives Tryz.prog 114 [.int .i64 y, .int .i64 v].toArray (.bool (belowN y.toNat v.toNat)) := by
 obtain ⟨y', rfl⟩ : ∃ n : Nat, y = n := ⟨y.toNat, by omega⟩
 obtain ⟨v', rfl⟩ : ∃ n : Nat, v = n := ⟨v.toNat, by omega⟩
 exact g_pbelow y' v' (by omega) (by omega) (by omega) (by omega)
theorem g_pspecialZ (s : Sc) (v : Int) (hv : 0 < v) (hv2 : v < 128) : Gives Tryz.prog 57 [.agg [.int .u8 s.k, .int .i64 s.d, .int .i64 (strideN s.d : Int)].toArray, .int .i64 v].toArray (.bool (specN s.d v.toNat)) := by
 obtain ⟨v', rfl⟩ : ∃ n : Nat, v = n := ⟨v.toNat, by omega⟩
 exact g_pspecial s v' (by omega) (by omega)
theorem g_pcutZ (s : Sc) (v : Int) (z : Int) (hv : 0 < v) (hz : 0 < z) (hz2 : z < 128) (hb : belowN z.toNat v.toNat = true) (hne : z ≠ v) : Gives Tryz.prog 56 [.agg [.int .u8 s.k, .int .i64 s.d, .int .i64 (strideN s.d : Int)].toArray, .int .i64 v, .int .i64 z].toArray (.int .i64 ((bet s.d z.toNat (lev z.toNat - lev v.toNat - 1) : Nat) : Int)) := by
 obtain ⟨v', rfl⟩ : ∃ n : Nat, v = n := ⟨v.toNat, by omega⟩
 obtain ⟨z', rfl⟩ : ∃ n : Nat, z = n := ⟨z.toNat, by omega⟩
 have hlt : lev v' < lev z' := Nat.lt_of_le_of_ne (below_iff.1 (by simpa using hb)).1 fun e => by
  have h1 := (below_iff.1 (show belowN z' v' = true by simpa using hb)).2
  rw [e, Nat.sub_self] at h1
  exact hne (by rw [show z' = v' from h1])
 exact g_pcut s v' z' (by rcases Nat.lt_or_ge 1 z' with h | h; exact h; rw [lev_one h] at hlt; omega) (by omega) (by simpa using hb) hlt
set_option maxRecDepth 10000 in
/-- (headend/cover.tree).subset -/
theorem g_psubset (s : Sc) (v x : Int) (d0 : 0 ≤ s.d) (d6 : s.d ≤ 6) : Gives Tryz.prog 71 [.agg [.int .u8 s.k, .int .i64 s.d, .int .i64 (strideN s.d : Int)].toArray, .agg [.int .i64 v, .int .i64 x].toArray].toArray (.bool (subB s v x)) := by
 refine gives_of Tryz.func71 rfl (bs := [.agg [.int .u8 s.k, .int .i64 s.d, .int .i64 (strideN s.d : Int)].toArray, .agg [.int .i64 v, .int .i64 x].toArray, undef, undef, undef, undef, undef, undef, undef, undef, undef, undef, undef, undef, undef, undef, undef, undef, undef, undef, undef, undef, undef, undef, undef, undef, undef, undef, undef, undef, undef, undef, undef, undef, undef, undef, undef, undef, undef, undef, undef, undef, undef, undef, undef, undef, undef, undef, undef, undef, undef, undef, undef, undef, undef, undef, undef, undef, undef, undef, undef, undef, undef, undef, undef, undef, undef, undef]) rfl ?_
 intro w hW
 refine c_seq (c_reg ?_)
 refine xB hW ?_
 intro g1 W hW
 refine xB hW ?_
 intro g2 W hW
 refine bB ?_
 refine l_end (n_then (c_seq ?_))
 refine c_regY hW [] [.q, .q, .q, .q, .q, .q] [0, 1, 0, 4, 3, 31] (by kernel_rfl) (by kernel_rfl) ?_
 refine y_val (r_fieldAddr 0 Tryz.underlying64 rfl tyC3.size rfl rfl rfl) rfl rfl ?_
 refine y_loadC 0 tyC3 rfl rfl rfl rfl rfl rfl (by decide) ?_
 refine y_val (r_fieldAddr 1 Tryz.underlying64 rfl tyC3.size rfl rfl rfl) rfl rfl ?_
 refine y_loadC 0 tyC3 rfl rfl rfl rfl rfl rfl (by decide) ?_
 refine y_val (r_assign (v := .int _ _) rfl rfl) rfl rfl ?_
 refine y_val (r_assign (v := .int _ _) rfl rfl) rfl rfl ?_
 refine y_end ?_
 intro W hW
 refine n_then (c_seq (c_block (c_seq (c_reg ?_))))
 refine dA hW 1 tyA106 ?_
 refine l_val (r_fieldAddr 0 Tryz.underlying64 rfl tyC3.size rfl rfl rfl) rfl rfl ?_
 refine dC hW 0 tyC3 ?_
 refine l_call hW (g_phas s _ (by omega) (by omega)) en113 rfl rfl rfl rfl ?_
 intro W hW
 refine l_split ?_ ?_
 ·intro hc1
  have hv := node_lt hc1 d6
  refine l_val (r_not rfl rfl) rfl rfl ?_
  refine bB ?_
  refine l_end (n_then ?_)
  refine c_false rfl ?_
  refine c_seq (c_reg ?_)
  refine l_val (r_fieldAddr 0 Tryz.underlying106 rfl tyC5.size rfl rfl rfl) rfl rfl ?_
  refine dC hW 1 tyC5 ?_
  refine l_val (r_eql rfl rfl rfl rfl) rfl rfl ?_
  refine l_split ?_ ?_
  ·intro hc2
   replace hc2 := of_decide_eq_true hc2
   refine aB ?_
   refine lN ?_
   refine lN ?_
   refine kB ?_
   refine bB ?_
   refine l_end (n_then ?_)
   refine c_true rfl ?_
   refine c_seq (c_reg ?_)
   refine aI ?_
   refine l_val (r_eql rfl rfl rfl rfl) rfl rfl ?_
   refine l_split ?_ ?_
   ·intro hc3
    replace hc3 := of_decide_eq_true hc3
    refine aB ?_
    refine l_valG (r_fieldAddr 0 Tryz.underlying106 rfl tyC5.size rfl rfl rfl) (by kernel_rfl) rfl ?_
    refine dG hW 1 tyC5 ?_
    refine l_valG (r_eql rfl rfl rfl rfl) (by kernel_rfl) rfl ?_
    refine l_split ?_ ?_
    ·intro hc4
     replace hc4 := of_decide_eq_true hc4
     refine l_valG (r_move (v := .bool _) rfl rfl) (by kernel_rfl) rfl ?_
     refine lN ?_
     refine lN ?_
     refine l_valG (r_pick (v := .bool _) rfl rfl rfl) (by kernel_rfl) rfl ?_
     refine kB ?_
     refine bB ?_
     refine l_end (n_then (c_ret (r_block (r_then ?_))))
     refine ret_tmp (v := .bool (subB s v x)) rfl ?_ ⟨rfl, hW.below⟩
     exact congrArg Value.bool (by rw [sub_k1 hc1 (by omega), decide_eq_true (by omega)])
    ·intro hc4
     replace hc4 := of_decide_eq_false hc4
     refine l_valG (r_move (v := .bool _) rfl rfl) (by kernel_rfl) rfl ?_
     refine gI ?_
     refine l_valG (r_eql rfl rfl rfl rfl) (by kernel_rfl) rfl ?_
     refine l_valG (r_pick (v := .bool _) rfl rfl rfl) (by kernel_rfl) rfl ?_
     refine kB ?_
     refine bB ?_
     refine l_end (n_then (c_ret (r_block (r_then ?_))))
     refine ret_tmp (v := .bool (subB s v x)) rfl ?_ ⟨rfl, hW.below⟩
     exfalso; omega
   ·intro hc3
    replace hc3 := of_decide_eq_false hc3
    refine aB ?_
    refine lN ?_
    refine lN ?_
    refine lN ?_
    refine lN ?_
    refine lN ?_
    refine lN ?_
    refine lN ?_
    refine kB ?_
    refine bB ?_
    refine l_end (n_then (c_ret (r_block (r_then ?_))))
    refine ret_tmp (v := .bool (subB s v x)) rfl ?_ ⟨rfl, hW.below⟩
    exact congrArg Value.bool (by rw [sub_k1 hc1 (by omega), decide_eq_false (by omega)])
  ·intro hc2
   replace hc2 := of_decide_eq_false hc2
   refine aB ?_
   refine gI ?_
   refine l_valG (r_eql rfl rfl rfl rfl) (by kernel_rfl) rfl ?_
   refine l_split ?_ ?_
   ·intro hc5
    replace hc5 := of_decide_eq_true hc5
    refine kB ?_
    refine bB ?_
    refine l_end (n_then ?_)
    refine c_true rfl ?_
    refine c_seq (c_reg ?_)
    refine aI ?_
    refine l_val (r_eql rfl rfl rfl rfl) rfl rfl ?_
    refine l_split ?_ ?_
    ·intro hc6
     replace hc6 := of_decide_eq_true hc6
     refine aB ?_
     refine l_valG (r_fieldAddr 0 Tryz.underlying106 rfl tyC5.size rfl rfl rfl) (by kernel_rfl) rfl ?_
     refine dG hW 1 tyC5 ?_
     refine l_valG (r_eql rfl rfl rfl rfl) (by kernel_rfl) rfl ?_
     refine l_split ?_ ?_
     ·intro hc7
      replace hc7 := of_decide_eq_true hc7
      refine l_valG (r_move (v := .bool _) rfl rfl) (by kernel_rfl) rfl ?_
      refine lN ?_
      refine lN ?_
      refine l_valG (r_pick (v := .bool _) rfl rfl rfl) (by kernel_rfl) rfl ?_
      refine kB ?_
      refine bB ?_
      refine l_end (n_then (c_ret (r_block (r_then ?_))))
      refine ret_tmp (v := .bool (subB s v x)) rfl ?_ ⟨rfl, hW.below⟩
      exfalso; omega
     ·intro hc7
      replace hc7 := of_decide_eq_false hc7
      refine l_valG (r_move (v := .bool _) rfl rfl) (by kernel_rfl) rfl ?_
      refine gI ?_
      refine l_valG (r_eql rfl rfl rfl rfl) (by kernel_rfl) rfl ?_
      refine l_valG (r_pick (v := .bool _) rfl rfl rfl) (by kernel_rfl) rfl ?_
      refine kB ?_
      refine bB ?_
      refine l_end (n_then (c_ret (r_block (r_then ?_))))
      refine ret_tmp (v := .bool (subB s v x)) rfl ?_ ⟨rfl, hW.below⟩
      exact congrArg Value.bool (sub_w0 hc1 (by omega) (by omega)).symm
    ·intro hc6
     replace hc6 := of_decide_eq_false hc6
     refine aB ?_
     refine lN ?_
     refine lN ?_
     refine lN ?_
     refine lN ?_
     refine lN ?_
     refine lN ?_
     refine lN ?_
     refine kB ?_
     refine bB ?_
     refine l_end (n_then (c_ret (r_block (r_then ?_))))
     refine ret_tmp (v := .bool (subB s v x)) rfl ?_ ⟨rfl, hW.below⟩
     exfalso; omega
   ·intro hc5
    replace hc5 := of_decide_eq_false hc5
    refine kB ?_
    refine bB ?_
    refine l_end (n_then ?_)
    refine c_false rfl ?_
    refine c_seq (c_reg ?_)
    refine dA hW 1 tyA106 ?_
    refine l_val (r_fieldAddr 1 Tryz.underlying64 rfl tyC3.size rfl rfl rfl) rfl rfl ?_
    refine dC hW 0 tyC3 ?_
    refine l_call hW (g_phas s _ (by omega) (by omega)) en113 rfl rfl rfl rfl ?_
    intro W hW
    refine l_split ?_ ?_
    ·intro hc8
     have hx := node_lt hc8 d6
     refine l_val (r_not rfl rfl) rfl rfl ?_
     refine aB ?_
     refine gI ?_
     refine gI ?_
     refine l_valG (r_eql rfl rfl rfl rfl) (by kernel_rfl) rfl ?_
     refine l_split ?_ ?_
     ·intro hc9
      replace hc9 := of_decide_eq_true hc9
      refine kB ?_
      refine aB ?_
      refine lN ?_
      refine lN ?_
      refine lN ?_
      refine lN ?_
      refine kB ?_
      refine bB ?_
      refine l_end (n_then ?_)
      refine c_true rfl ?_
      refine c_seq (c_reg ?_)
      refine bB ?_
      refine l_end (n_then (c_ret (r_block (r_then ?_))))
      refine ret_tmp (v := .bool (subB s v x)) rfl ?_ ⟨rfl, hW.below⟩
      exact congrArg Value.bool (sub_no hc1 (by omega) (by omega) (.inr (.inl (by omega)))).symm
     ·intro hc9
      replace hc9 := of_decide_eq_false hc9
      refine kB ?_
      refine aB ?_
      refine gI ?_
      refine gI ?_
      refine l_callG hW (g_pbelowZZ x v (by omega) (by omega) (by omega) (by omega)) en114 (by kernel_rfl) rfl rfl rfl ?_
      intro W hW
      refine l_split ?_ ?_
      ·intro hc10
       refine l_valG (r_not rfl rfl) (by kernel_rfl) rfl ?_
       refine kB ?_
       refine bB ?_
       refine l_end (n_then ?_)
       refine c_false rfl ?_
       refine c_skip (n_block (n_then (c_seq (c_reg ?_))))
       refine l_val (r_fieldAddr 0 Tryz.underlying106 rfl tyC5.size rfl rfl rfl) rfl rfl ?_
       refine dC hW 1 tyC5 ?_
       refine l_val (r_eql rfl rfl rfl rfl) rfl rfl ?_
       refine l_split ?_ ?_
       ·intro hc11
        replace hc11 := of_decide_eq_true hc11
        refine aB ?_
        refine lN ?_
        refine lN ?_
        refine lN ?_
        refine kB ?_
        refine aB ?_
        refine lN ?_
        refine lN ?_
        refine lN ?_
        refine lN ?_
        refine lN ?_
        refine kB ?_
        refine bB ?_
        refine l_end (n_then (c_ret ?_))
        refine ret_tmp (v := .bool (subB s v x)) rfl ?_ ⟨rfl, hW.below⟩
        rw [sub_end hc1 (by omega) (by omega) hc8 (by omega) hc10]
        rw [decide_eq_true (show s.k = 2 by omega)]; rfl
       ·intro hc11
        replace hc11 := of_decide_eq_false hc11
        refine aB ?_
        refine l_loadAG hW 1 tyA106 (by kernel_rfl) rfl rfl rfl rfl (by first | rfl | exact kc_len _ | exact kcf_len _ | exact boC_len _ _ | (simp; done)) ?_
        refine gI ?_
        refine l_callG hW (g_pspecialZ s v (by omega) (by omega)) en57 (by kernel_rfl) rfl rfl rfl ?_
        intro W hW
        refine l_split ?_ ?_
        ·intro hc12
         refine kB ?_
         refine aB ?_
         refine lN ?_
         refine lN ?_
         refine lN ?_
         refine lN ?_
         refine lN ?_
         refine kB ?_
         refine bB ?_
         refine l_end (n_then (c_ret ?_))
         refine ret_tmp (v := .bool (subB s v x)) rfl ?_ ⟨rfl, hW.below⟩
         rw [sub_end hc1 (by omega) (by omega) hc8 (by omega) hc10]
         rw [hc12, Bool.or_true]; rfl
        ·intro hc12
         refine kB ?_
         refine aB ?_
         refine l_loadAG hW 1 tyA106 (by kernel_rfl) rfl rfl rfl rfl (by first | rfl | exact kc_len _ | exact kcf_len _ | exact boC_len _ _ | (simp; done)) ?_
         refine gI ?_
         refine gI ?_
         refine l_callG hW (g_pcutZ s v x (by omega) (by omega) (by omega) hc10 (by omega)) en56 (by kernel_rfl) rfl rfl rfl ?_
         intro W hW
         refine l_valG (r_eqlN (n := 0) rfl rfl rfl rfl) (by kernel_rfl) rfl ?_
         refine kB ?_
         refine bB ?_
         refine l_end (n_then (c_ret ?_))
         refine ret_tmp (v := .bool (subB s v x)) rfl ?_ ⟨rfl, hW.below⟩
         rw [sub_end hc1 (by omega) (by omega) hc8 (by omega) hc10]
         rw [decide_eq_false (show ¬ s.k = 2 by omega), hc12]
         exact congrArg Value.bool (by rw [Bool.eq_iff_iff]; simp)
      ·intro hc10
       refine l_valG (r_not rfl rfl) (by kernel_rfl) rfl ?_
       refine kB ?_
       refine bB ?_
       refine l_end (n_then ?_)
       refine c_true rfl ?_
       refine c_seq (c_reg ?_)
       refine bB ?_
       refine l_end (n_then (c_ret (r_block (r_then ?_))))
       refine ret_tmp (v := .bool (subB s v x)) rfl ?_ ⟨rfl, hW.below⟩
       exact congrArg Value.bool (sub_no hc1 (by omega) (by omega) (.inr (.inr hc10))).symm
    ·intro hc8
     refine l_val (r_not rfl rfl) rfl rfl ?_
     refine aB ?_
     refine lN ?_
     refine lN ?_
     refine lN ?_
     refine kB ?_
     refine aB ?_
     refine lN ?_
     refine lN ?_
     refine lN ?_
     refine lN ?_
     refine kB ?_
     refine bB ?_
     refine l_end (n_then ?_)
     refine c_true rfl ?_
     refine c_seq (c_reg ?_)
     refine bB ?_
     refine l_end (n_then (c_ret (r_block (r_then ?_))))
     refine ret_tmp (v := .bool (subB s v x)) rfl ?_ ⟨rfl, hW.below⟩
     exact congrArg Value.bool (sub_no hc1 (by omega) (by omega) (.inl hc8)).symm
 ·intro hc1
  refine l_val (r_not rfl rfl) rfl rfl ?_
  refine bB ?_
  refine l_end (n_then ?_)
  refine c_true rfl ?_
  refine c_seq (c_reg ?_)
  refine bB ?_
  refine l_end (n_then (c_ret (r_block (r_then ?_))))
  refine ret_tmp (v := .bool (subB s v x)) rfl ?_ ⟨rfl, hW.below⟩
  exact congrArg Value.bool (sub_no1 hc1).symm

end Go.Proofs.YtoegpalacppllaaGreat

/- Members of subsets, by the program. -/
namespace Go.Proofs.YtoegpalacppllaaGreat
open Go.RowKit Pl
open Tr Hn
set_option maxRecDepth 10000 in
/-- headend/cover.enter -/
theorem g_enter (s : Sc) (ra : Option Addr) (rn rc : Nat) (l : List (Int × Int)) (hs : schB s = true) (hq : l.length ≤ 100) : GivesR Tryz.prog 51 [.agg [.int .u8 s.k, .int .i64 s.d, .int .i64 s.g, .int .u64 s.p, .int .u64 s.q, .int .u64 s.r].toArray, .slice ra rn rc].toArray (fun w => RdB w ⟨ra, rn, rc⟩ l) (.tuple #[.agg (entT s l).toArray, .int .i64 (entE s l)]) := by
 refine givesR_of Tryz.func51 rfl (bs := [.agg [.int .u8 s.k, .int .i64 s.d, .int .i64 s.g, .int .u64 s.p, .int .u64 s.q, .int .u64 s.r].toArray, .slice ra rn rc, undef, undef, undef, undef, undef, undef, undef, undef, undef, undef, undef, undef, undef, undef, undef, undef, undef, undef, undef, undef, undef, undef, undef, undef, undef, undef, undef, undef, undef]) rfl ?_
 intro w hP hW
 obtain ⟨k1, k3, d0, d6, -⟩ := schB_iff.1 hs
 have hn : rn = l.length := hP.len
 refine c_seq (c_reg ?_)
 refine xB hW ?_
 intro g1 W hW
 refine l_alloc hW tyZ106 rfl rfl rfl ?_
 intro g2 W hW
 refine bI ?_
 refine l_end (n_then (c_seq (c_reg ?_)))
 refine dA hW 1 tyA26 ?_
 refine l_call hW (g_treeOf s) en98 rfl rfl rfl rfl ?_
 intro W hW
 rw [treeC_yes hs rfl, hs]
 refine l_val (r_move (v := .tuple _) rfl rfl) rfl rfl ?_
 refine l_val (r_extract (v := .agg _) rfl rfl rfl) rfl rfl ?_
 refine l_val (r_extract (v := .bool _) rfl rfl rfl) rfl rfl ?_
 refine l_alloc hW tyZ106 rfl rfl rfl ?_
 intro g3 W hW
 refine sA hW 0 tyA106 ?_
 intro W hW
 refine bB ?_
 refine l_end (n_then (c_seq (c_seq (c_reg ?_))))
 refine aB ?_
 refine l_val (r_not rfl rfl) rfl rfl ?_
 refine l_end (n_then ?_)
 refine c_false rfl ?_
 refine c_skip (n_then (c_seq (c_seq (c_reg ?_))))
 refine aS ?_
 refine l_val (r_lenSlice Tryz.underlying33 rfl rfl) rfl rfl ?_
 refine aI ?_
 refine l_end (n_then (c_block ?_))
 refine c_loop (fun (i : Nat) (j : Nat → Value) => [.agg [.int .u8 s.k, .int .i64 s.d, .int .i64 s.g, .int .u64 s.p, .int .u64 s.q, .int .u64 s.r].toArray, .slice ra rn rc, .pointer (some ⟨g1, 0, none⟩), j 3, .pointer (some ⟨g2, 0, none⟩), j 5, .pointer (some ⟨g3, 0, none⟩), .bool true, j 8, j 9, .tuple #[.agg [.int .u8 s.k, .int .i64 s.d, .int .i64 (strideN s.d : Int)].toArray, .bool true], .agg ([.int .u8 s.k, .int .i64 s.d, .int .i64 s.g, .int .u64 s.p, .int .u64 s.q, .int .u64 s.r]).toArray, .tuple #[.agg [.int .u8 s.k, .int .i64 s.d, .int .i64 (strideN s.d : Int)].toArray, .bool true], .agg [.int .u8 s.k, .int .i64 s.d, .int .i64 (strideN s.d : Int)].toArray, .bool true, .bool true, .bool false, j 17, .slice ra rn rc, .int .i64 (rn : Int), .int .i64 (i : Int), j 21, j 22, j 23, j 24, j 25, j 26, j 27, j 28, j 29, j 30]) (fun (i : Nat) => [⟨g3, [.int .u8 s.k, .int .i64 s.d, .int .i64 (strideN s.d : Int)], 106⟩, ⟨g2, z106, 106⟩, ⟨g1, [.int .u8 s.k, .int .i64 s.d, .int .i64 s.g, .int .u64 s.p, .int .u64 s.q, .int .u64 s.r], 26⟩]) (fun (i : Nat) => i ≤ rn ∧ ∀ k, k < i → subB s (qn l k) (qm l k) = true) (fun (i : Nat) => rn - i) 0 (by kernel_rfl) hW ⟨by omega, all_zero⟩ ?_
 intro i j W hx hW
 obtain ⟨hi0, hib⟩ := hx
 refine c_seq (c_reg ?_)
 refine l_val (r_lssN rfl rfl rfl rfl) rfl rfl ?_
 refine l_split ?_ ?_
 ·intro hc1
  replace hc1 := of_decide_eq_true hc1
  obtain ⟨b0, o0, ha, hc⟩ := hP.ptr (by omega)
  simp only at ha
  subst ha
  refine l_end (n_then (c_seq ?_))
  refine c_true rfl ?_
  refine c_skip (n_then (c_seq (c_block (c_seq (c_reg ?_)))))
  refine l_val (r_indexAddrSlB (n := i) Tryz.underlying33 tyA64.size rfl rfl rfl (by omega)) rfl rfl ?_
  refine l_loadF2 hW tyA64 (hc i (by omega)).1 (hc i (by omega)).2 rfl rfl rfl rfl ?_
  refine l_alloc hW tyZ64 rfl rfl rfl ?_
  intro g4 W hW
  refine sA hW 0 tyA64 ?_
  intro W hW
  refine l_end (n_then (c_seq (c_reg ?_)))
  refine dA hW 1 tyA106 ?_
  refine dA hW 0 tyA64 ?_
  refine l_call hW (g_psubset s _ _ d0 d6) en71 rfl rfl rfl rfl ?_
  intro W hW
  refine l_split ?_ ?_
  ·intro hc2
   refine l_val (r_not rfl rfl) rfl rfl ?_
   refine l_end (n_then ?_)
   refine c_false rfl ?_
   refine c_skip (n_block (n_then (c_reg ?_)))
   refine l_val (r_addN (n := 1) rfl rfl rfl (by omega)) rfl rfl ?_
   refine aI ?_
   refine l_end (n_then ?_)
   exact loop_next (i + 1) (by kernel_rfl) (hW.drop 1) ⟨by omega, all_upto hib hc2⟩ (by omega)
  ·intro hc2
   refine l_val (r_not rfl rfl) rfl rfl ?_
   refine l_end (n_then ?_)
   refine c_true rfl ?_
   refine c_seq (c_reg ?_)
   refine l_val (r_build (ps := []) (bld106_) rfl rfl) rfl rfl ?_
   refine sA hW 2 tyA106 ?_
   intro W hW
   refine bI ?_
   refine l_end (n_then (c_ret (r_block (r_then (r_then (r_block (r_then ?_)))))))
   refine rT hW 2 tyA106 ?_
   exact ⟨by rw [entE_no (i := i) (by omega) hc2, entT_no (entE_no (i := i) (by omega) hc2)]; rfl, hW.below⟩
 ·intro hc1
  replace hc1 := of_decide_eq_false hc1
  refine l_end (n_then (c_seq ?_))
  refine c_false rfl ?_
  refine c_exit (x_then (x_then ?_))
  refine x_hit ?_
  refine n_then (c_seq (c_reg ?_))
  refine dA hW 0 tyA106 ?_
  refine sA hW 1 tyA106 ?_
  intro W hW
  refine bI ?_
  refine l_end (n_then (c_ret ?_))
  refine rT hW 1 tyA106 ?_
  have hall := entE_yes (s := s) (l := l) fun k hk => hib k (by omega)
  exact ⟨by rw [hall, entT_yes hall]; rfl, hW.below⟩

set_option maxRecDepth 10000 in
/-- headend/cover.Members -/
theorem g_Members (s : Sc) (v x : Int) (hs : schB s = true) : GivesX Tryz.prog 43 [.agg [.int .u8 s.k, .int .i64 s.d, .int .i64 s.g, .int .u64 s.p, .int .u64 s.q, .int .u64 s.r].toArray, .agg [.int .i64 v, .int .i64 x].toArray].toArray (fun _ => True) (fun u Bs => ∃ t : Sl, u = .tuple #[t.v, .int .i64 (if subB s v x then 0 else 31)] ∧ (subB s v x = true → NewI t (membersN s v x (p2 s.d.toNat)) Bs)) := by
 refine givesX_of Tryz.func43 rfl (bs := [.agg [.int .u8 s.k, .int .i64 s.d, .int .i64 s.g, .int .u64 s.p, .int .u64 s.q, .int .u64 s.r].toArray, .agg [.int .i64 v, .int .i64 x].toArray, undef, undef, undef, undef, undef, undef, undef, undef, undef, undef, undef, undef, undef, undef, undef, undef, undef, undef, undef]) rfl ?_
 intro w hP hW
 obtain ⟨k1, k3, d0, d6, -⟩ := schB_iff.1 hs
 refine c_seq (c_reg ?_)
 refine xB hW ?_
 intro g1 W hW
 refine xB hW ?_
 intro g2 W hW
 refine bS ?_
 refine bI ?_
 refine l_end (n_then (c_seq (c_reg ?_)))
 refine dA hW 1 tyA26 ?_
 refine dA hW 0 tyA64 ?_
 refine l_buildSliceF hW (bsl33_1_0 _ _) rfl rfl rfl rfl ?_
 intro gb W hW
 refine l_callR hW (g_enter s (some ⟨gb, 0, none⟩) 1 1 [(v, x)] hs (by simp)) en51 (RdB.one hW 0 rfl) rfl rfl rfl rfl ?_
 intro W hW
 obtain ⟨ee, hee⟩ : ∃ ee, ee = entE s [(v, x)] := ⟨_, rfl⟩
 have heo := hee.trans (entE_one s v x)
 have he0 : subB s v x = true → ee = 0 := fun h => heo.trans (by rw [h]; rfl)
 have he1 : subB s v x = false → ee = 31 := fun h => heo.trans (by rw [h]; rfl)
 rw [← hee]
 refine l_val (r_move (v := .tuple _) rfl rfl) rfl rfl ?_
 refine l_val (r_extract (v := .agg _) rfl rfl rfl) rfl rfl ?_
 refine l_val (r_extract (v := .int _ _) rfl rfl rfl) rfl rfl ?_
 refine l_alloc hW tyZ106 rfl rfl rfl ?_
 intro g3 W hW
 refine l_storeA hW 0 tyA106 rfl rfl rfl rfl rfl rfl rfl (entT_len _ _) (entT_one _ _) ?_
 intro W hW
 refine bI ?_
 refine l_end (n_then (c_seq (c_seq (c_reg ?_))))
 refine aI ?_
 refine l_val (r_neq rfl rfl rfl rfl) rfl rfl ?_
 refine l_split ?_ ?_
 ·intro hc1
  replace hc1 := of_decide_eq_true hc1
  have hb : subB s v x = false := by
   cases hb : subB s v x with
   | true => exact absurd (he0 hb) hc1
   | false => rfl
  refine l_end (n_then ?_)
  refine c_true rfl ?_
  refine c_seq (c_reg ?_)
  refine aI ?_
  refine bS ?_
  refine bI ?_
  refine l_end (n_then (c_ret (r_then ?_)))
  refine ret_tmp2 rfl rfl rfl ?_
  exact ⟨_, [], rfl, ⟨Sl.no, by rw [hb, he1 hb]; rfl, fun h => by rw [hb] at h; cases h⟩, hW.sub (List.nil_sublist _)⟩
 ·intro hc1
  replace hc1 := of_decide_eq_false hc1
  have hb : subB s v x = true := by
   cases hb : subB s v x with
   | false => have := he1 hb; omega
   | true => rfl
  have htt : entT s [(v, x)] = [.int .u8 s.k, .int .i64 s.d, .int .i64 (strideN s.d : Int)] := entT_yes (by rw [← hee]; omega)
  obtain ⟨hx1, hx2, hx3, hx4⟩ := sub_x d6 hb
  replace hW := (show Cl _ (⟨_, entT s [(v, x)], _⟩ :: _) _ from hW)
  rw [htt] at hW
  refine l_end (n_then ?_)
  refine c_false rfl ?_
  refine c_skip (n_then (c_seq (c_reg ?_)))
  refine dA hW 0 tyA106 ?_
  refine dA hW 2 tyA64 ?_
  refine l_callX hW (g_pmembers s v x d0 d6 hx1 hx2 hx3 hx4) en89 trivial rfl rfl rfl rfl ?_
  rintro _ Bs W ⟨am, cm, rfl, hO⟩ hW
  refine bS ?_
  refine bI ?_
  refine l_end (n_then (c_ret ?_))
  refine ret_tmp2 rfl rfl rfl ?_
  exact ⟨_, Bs, rfl, ⟨⟨am, _, cm⟩, by rw [hb]; rfl, fun _ => hO.newI⟩, hW.sub (List.sublist_append_right _ _)⟩

end Go.Proofs.YtoegpalacppllaaGreat

/- Lists of subsets, by the program. -/
namespace Go.Proofs.YtoegpalacppllaaGreat
open Go.RowKit Pl
open Tr Hn
set_option maxRecDepth 10000 in
/-- headend/trace.subsets -/
theorem g_psubsets (s : Sc) (ra : Option Addr) (rn rc : Nat) (l : List (Int × Int)) (hs : schB s = true) (hq : l.length ≤ 5000) : GivesX Tryz.prog 83 [.agg [.int .u8 s.k, .int .i64 s.d, .int .i64 s.g, .int .u64 s.p, .int .u64 s.q, .int .u64 s.r].toArray, .slice ra rn rc].toArray (fun w => RdB w ⟨ra, rn, rc⟩ l) (fun u Bs => ∃ (t : Sl) (ss : List Sl), u = .tuple #[t.v, .int .i64 (subsE s l)] ∧ (subsE s l = 0 → Rep Bs fun W => RdG W t ss (mems s l))) := by
 refine givesX_of Tryz.func83 rfl (bs := [.agg [.int .u8 s.k, .int .i64 s.d, .int .i64 s.g, .int .u64 s.p, .int .u64 s.q, .int .u64 s.r].toArray, .slice ra rn rc, undef, undef, undef, undef, undef, undef, undef, undef, undef, undef, undef, undef, undef, undef, undef, undef, undef, undef, undef, undef, undef, undef, undef, undef, undef, undef, undef, undef, undef, undef, undef, undef, undef]) rfl ?_
 intro w hP hW
 obtain ⟨k1, k3, d0, d6, -⟩ := schB_iff.1 hs
 have hn : rn = l.length := hP.len
 refine c_seq (c_reg ?_)
 refine xB hW ?_
 intro g1 W hW
 refine bS ?_
 refine bI ?_
 refine l_end (n_then (c_seq (c_seq (c_reg ?_))))
 refine aS ?_
 refine l_val (r_lenSlice Tryz.underlying33 rfl rfl) rfl rfl ?_
 refine l_val (r_gtrN (n := 64) rfl rfl rfl rfl) rfl rfl ?_
 refine l_split ?_ ?_
 ·intro hc1
  replace hc1 := of_decide_eq_true hc1
  refine l_end (n_then ?_)
  refine c_true rfl ?_
  refine c_seq (c_reg ?_)
  refine bS ?_
  refine bI ?_
  refine l_end (n_then (c_ret (r_then ?_)))
  refine ret_tmp2 rfl rfl rfl ?_
  exact ⟨_, [], rfl, ⟨Sl.no, [], by rw [subsE_many (by omega)]; rfl, fun h => absurd h (by rw [subsE_many (by omega)]; decide)⟩, hW.sub (List.nil_sublist _)⟩
 ·intro hc1
  replace hc1 := of_decide_eq_false hc1
  refine l_end (n_then ?_)
  refine c_false rfl ?_
  refine c_skip (n_then (c_seq (c_reg ?_)))
  refine bS ?_
  refine l_end (n_then (c_seq (c_seq (c_reg ?_))))
  refine aS ?_
  refine l_val (r_lenSlice Tryz.underlying33 rfl rfl) rfl rfl ?_
  refine aI ?_
  refine l_end (n_then (c_block ?_))
  refine c_loop (fun (z : Nat × Option Addr × Nat × List Blk × List Blk × List Sl) (j : Nat → Value) => [.agg [.int .u8 s.k, .int .i64 s.d, .int .i64 s.g, .int .u64 s.p, .int .u64 s.q, .int .u64 s.r].toArray, .slice ra rn rc, .pointer (some ⟨g1, 0, none⟩), j 3, j 4, j 5, .slice z.2.1 z.1 z.2.2.1, j 7, j 8, j 9, j 10, .slice ra rn rc, j 12, .bool false, .slice ra rn rc, .int .i64 (rn : Int), .int .i64 (z.1 : Int), j 17, j 18, j 19, j 20, j 21, j 22, j 23, j 24, j 25, j 26, j 27, j 28, j 29, j 30, j 31, j 32, j 33, j 34]) (fun (z : Nat × Option Addr × Nat × List Blk × List Blk × List Sl) => [⟨g1, [.int .u8 s.k, .int .i64 s.d, .int .i64 s.g, .int .u64 s.p, .int .u64 s.q, .int .u64 s.r], 26⟩] ++ (z.2.2.2.1 ++ z.2.2.2.2.1)) (fun (z : Nat × Option Addr × Nat × List Blk × List Blk × List Sl) => z.1 ≤ rn ∧ (∀ k, k < z.1 → subB s (qn l k) (qm l k) = true) ∧ OwnSl 27 1 z.2.1 z.1 z.2.2.1 (z.2.2.2.2.2.map Sl.v) z.2.2.2.1 ∧ z.2.2.2.2.2.length = z.1 ∧ NewSs z.2.2.2.2.2 (mems s l) z.2.2.2.2.1) (fun (z : Nat × Option Addr × Nat × List Blk × List Blk × List Sl) => rn - z.1) (0, none, 0, [], [], []) (by kernel_rfl) (by simpa using hW) ⟨Nat.zero_le _, fun k hk => by omega, OwnSl.nil 27 1, rfl, NewSs.nil _ _⟩ ?_
  intro z j W hx hW
  obtain ⟨hi0, hib, hO, hzl, hN⟩ := hx
  refine c_seq (c_reg ?_)
  refine l_val (r_lssN rfl rfl rfl rfl) rfl rfl ?_
  refine l_split ?_ ?_
  ·intro hc2
   replace hc2 := of_decide_eq_true hc2
   obtain ⟨b0, o0, ha, hc⟩ := hP.ptr (by omega)
   simp only at ha
   subst ha
   refine l_end (n_then (c_seq ?_))
   refine c_true rfl ?_
   refine c_skip (n_then (c_seq (c_block (c_seq (c_reg ?_)))))
   refine l_val (r_indexAddrSlB (n := z.1) Tryz.underlying33 tyA64.size rfl rfl rfl (by omega)) rfl rfl ?_
   refine l_loadF2 hW tyA64 (hc z.1 (by omega)).1 (hc z.1 (by omega)).2 rfl rfl rfl rfl ?_
   refine l_alloc hW tyZ64 rfl rfl rfl ?_
   intro g2 W hW
   refine sA hW 0 tyA64 ?_
   intro W hW
   refine l_end (n_then (c_seq (c_reg ?_)))
   refine dA hW 1 tyA26 ?_
   refine dA hW 0 tyA64 ?_
   refine l_callX hW (g_Members s (qn l z.1) (qm l z.1) hs) en43 trivial rfl rfl rfl rfl ?_
   rintro _ BsM W ⟨tm, rfl, hm⟩ hW
   obtain ⟨ee, hee⟩ : ∃ ee : Int, ee = (if subB s (qn l z.1) (qm l z.1) = true then 0 else 31) := ⟨_, rfl⟩
   have he0 : subB s (qn l z.1) (qm l z.1) = true → ee = 0 := fun h => hee.trans (by rw [h]; rfl)
   have he1 : subB s (qn l z.1) (qm l z.1) = false → ee = 31 := fun h => hee.trans (by rw [h]; rfl)
   rw [← hee]
   refine l_val (r_move (v := .tuple _) rfl rfl) rfl rfl ?_
   refine l_val (r_extract (v := .slice _ _ _) rfl rfl rfl) rfl rfl ?_
   refine l_val (r_extract (v := .int _ _) rfl rfl rfl) rfl rfl ?_
   refine bS ?_
   refine bI ?_
   refine l_end (n_then (c_seq (c_seq (c_reg ?_))))
   refine aI ?_
   refine l_val (r_neq rfl rfl rfl rfl) rfl rfl ?_
   refine l_split ?_ ?_
   ·intro hc3
    replace hc3 := of_decide_eq_true hc3
    have hb : subB s (qn l z.1) (qm l z.1) = false := by
     cases hb : subB s (qn l z.1) (qm l z.1) with
     | true => exact absurd (he0 hb) hc3
     | false => rfl
    refine l_end (n_then ?_)
    refine c_true rfl ?_
    refine c_seq (c_reg ?_)
    refine aI ?_
    refine bS ?_
    refine bI ?_
    refine l_end (n_then (c_ret (r_then (r_block (r_then (r_then (r_block (r_then ?_))))))))
    refine ret_tmp2 rfl rfl rfl ?_
    exact ⟨_, [], rfl, ⟨Sl.no, [], by rw [subsE_no (i := z.1) (by omega) (by omega) hb, he1 hb]; rfl, fun h => absurd h (by rw [subsE_no (i := z.1) (by omega) (by omega) hb]; decide)⟩, hW.sub (List.nil_sublist _)⟩
   ·intro hc3
    replace hc3 := of_decide_eq_false hc3
    have hb : subB s (qn l z.1) (qm l z.1) = true := by
     cases hb : subB s (qn l z.1) (qm l z.1) with
     | false => have := he1 hb; omega
     | true => rfl
    refine l_end (n_then ?_)
    refine c_false rfl ?_
    refine c_skip (n_then (c_reg ?_))
    refine aS ?_
    refine aS ?_
    refine l_buildSliceF hW (bsl150_1_0 _ _ _) rfl rfl rfl rfl ?_
    intro gb W hW
    replace hW := (show Cl _ (_ :: (([_, _] ++ (z.2.2.2.1 ++ z.2.2.2.2.1)) ++ BsM)) _ from hW).perm permS
    refine l_appendB tyE150 (L := _ :: ([_, _] ++ (z.2.2.2.2.1 ++ BsM))) hO hW 0 (N := z.1 + 1) rfl rfl rfl rfl rfl rfl rfl rfl (by simp [Value.oneCell']) (by unfold maxLen; omega) (by omega) ?_
    intro a1 c1 Bs1 W hO1 hW
    replace hO1 := hO1.castx rfl (xs' := (z.2.2.2.2.2 ++ [tm]).map Sl.v) (by simp)
    refine bS ?_
    refine l_end (n_block (n_then (c_reg ?_)))
    refine l_val (r_addN (n := 1) rfl rfl rfl (by omega)) rfl rfl ?_
    refine aI ?_
    refine l_end (n_then ?_)
    exact loop_next (z.1 + 1, a1, c1, Bs1, z.2.2.2.2.1 ++ BsM, z.2.2.2.2.2 ++ [tm]) (by kernel_rfl) ((show Cl _ (_ :: ((z.2.2.2.2.1 ++ BsM) ++ Bs1)) _ from (hW.drop 2)).perm (List.Perm.cons _ List.perm_append_comm)) ⟨by simp only; omega, all_upto hib hb, hO1, by simp only [List.length_append, hzl]; rfl, hN.one (by rw [hzl]; exact mems_get (by omega)) (hm hb) (List.sublist_append_left _ _) (List.sublist_append_right _ _)⟩ (by simp only; omega)
  ·intro hc2
   replace hc2 := of_decide_eq_false hc2
   refine l_end (n_then (c_seq ?_))
   refine c_false rfl ?_
   refine c_exit (x_then (x_then ?_))
   refine x_hit ?_
   refine n_then (c_seq (c_reg ?_))
   refine aS ?_
   refine bS ?_
   refine bI ?_
   refine l_end (n_then (c_ret ?_))
   refine ret_tmp2 rfl rfl rfl ?_
   have hall := subsE_yes (s := s) (l := l) (by omega) fun k hk => hib k (by omega)
   exact ⟨_, _, rfl, ⟨⟨z.2.1, z.1, z.2.2.1⟩, z.2.2.2.2.2, by rw [hall]; rfl, fun _ => RdG.of hO hN (by rw [mems_len]; omega) (List.sublist_append_left _ _) (List.sublist_append_right _ _)⟩, hW.drop 1⟩

end Go.Proofs.YtoegpalacppllaaGreat

/- Which lists are open to a box, by the program. -/
namespace Go.Proofs.YtoegpalacppllaaGreat
open Go.RowKit Pl
open Tr Hn
theorem g_BSearch (aa : Option Addr) (an ac : Nat) (l : List Int) (x : Int) (hs : l.Pairwise (· ≤ ·)) (hl : l.length ≤ 4294967296) : ∃ q : Int, GivesR Tryz.prog 132 [.slice aa an ac, .int .i64 x].toArray (fun w => RdI w ⟨aa, an, ac⟩ l) (.tuple #[.int .i64 q, .bool (l.contains x)]) := by
 by_cases h0 : l.length = 0
 ·obtain rfl : l = [] := List.eq_nil_of_length_eq_zero h0
  refine ⟨0, fun w hp => ?_⟩
  obtain rfl : an = 0 := hp.len
  exact (Tryz.slices_BinarySearch_int_empty aa ac x w).mono fun e w' ⟨he, hw⟩ => ⟨he, hw ▸ Below.refl _ _⟩
 ·refine ⟨((l.countP (· < x) : Nat) : Int), fun w hp => ?_⟩
  have hn : an = l.length := hp.len
  obtain ⟨b, i, ha, hc⟩ := hp.ptr (by omega)
  simp only at ha
  subst ha
  subst hn
  have := Tryz.slices_BinarySearch_int b i l.length ac l x w (Nat.le_refl _) (by omega) hc (by rw [List.take_length]; exact hs)
  rw [List.take_length] at this
  exact this.mono fun e w' ⟨he, q, hw⟩ => ⟨he, hw ▸ below_drewN (Below.refl _ _) q⟩
set_option maxRecDepth 10000 in
/-- headend/trace.opens$1 -/
theorem g_opens1 (t : Sl) (c : List Int) (gx : Nat) (hc : c.Pairwise (· ≤ ·)) (hcl : c.length ≤ 100) (x : Int) : GivesR Tryz.prog 131 [.int .i64 x, .pointer (some ⟨gx, 0, none⟩)].toArray (fun w => w.cell? ⟨gx, 6, none⟩ = some t.v ∧ RdI w t c) (.bool (c.contains x)) := by
 refine givesR_of Tryz.func131 rfl (bs := [.int .i64 x, .pointer (some ⟨gx, 0, none⟩), undef, undef, undef, undef, undef, undef, undef, undef, undef, undef, undef, undef]) rfl ?_
 intro w hP hW
 obtain ⟨q, hbs⟩ := g_BSearch t.a t.n t.c c x hc (by omega)
 refine c_seq (c_reg ?_)
 refine bB ?_
 refine l_end (n_then (c_seq (c_reg ?_)))
 refine l_val (r_fieldAddr 6 Tryz.underlying31 rfl tyC27.size rfl rfl rfl) rfl rfl ?_
 refine l_loadF hW tyC27 (v := t.v) hP.1 rfl rfl rfl rfl ?_
 refine aI ?_
 refine l_callR hW hbs en132 (hP.2.past hW.below) rfl rfl rfl rfl ?_
 intro W hW
 refine l_val (r_move (v := .tuple _) rfl rfl) rfl rfl ?_
 refine l_val (r_extract (v := .int _ _) rfl rfl rfl) rfl rfl ?_
 refine l_val (r_extract (v := .bool _) rfl rfl rfl) rfl rfl ?_
 refine bI ?_
 refine bB ?_
 refine l_end (n_then (c_seq (c_reg ?_)))
 refine aB ?_
 refine bB ?_
 refine l_end (n_then (c_ret ?_))
 refine ret_tmp (v := .bool (c.contains x)) rfl ?_ ⟨rfl, hW.below⟩
 rfl

set_option maxRecDepth 10000 in
/-- slices.IndexFunc[[]int,int] -/
theorem g_IndexFunc (t : Sl) (c : List Int) (gx : Nat) (hc : c.Pairwise (· ≤ ·)) (hcl : c.length ≤ 100) (aa : Option Addr) (an ac : Nat) (l : List Int) (hl : l.length ≤ 4294967296) : GivesR Tryz.prog 134 [.slice aa an ac, .func (.func 131) #[] #[.pointer (some ⟨gx, 0, none⟩)]].toArray (fun w => (w.cell? ⟨gx, 6, none⟩ = some t.v ∧ RdI w t c) ∧ RdI w ⟨aa, an, ac⟩ l) (.int .i64 (findI l.length fun k => c.contains (at_ l k))) := by
 refine givesR_of Tryz.func134 rfl (bs := [.slice aa an ac, .func (.func 131) #[] #[.pointer (some ⟨gx, 0, none⟩)], undef, undef, undef, undef, undef, undef, undef, undef, undef, undef, undef, undef, undef, undef, undef, undef, undef]) rfl ?_
 intro w hP hW
 have hn : an = l.length := hP.2.len
 refine c_seq (c_reg ?_)
 refine bI ?_
 refine l_end (n_then (c_seq (c_seq (c_reg ?_))))
 refine aS ?_
 refine l_val (r_lenSlice Tryz.underlying27 rfl rfl) rfl rfl ?_
 refine aI ?_
 refine l_end (n_then (c_block ?_))
 refine c_loop (fun (i : Nat) (j : Nat → Value) => [.slice aa an ac, .func (.func 131) #[] #[.pointer (some ⟨gx, 0, none⟩)], j 2, j 3, j 4, j 5, .slice aa an ac, .int .i64 (an : Int), .int .i64 (i : Int), j 9, j 10, j 11, j 12, j 13, j 14, j 15, j 16, j 17, j 18]) (fun (i : Nat) => []) (fun (i : Nat) => i ≤ an ∧ ∀ k, k < i → c.contains (at_ l k) = false) (fun (i : Nat) => an - i) 0 (by kernel_rfl) hW ⟨by omega, all_zero⟩ ?_
 intro i j W hx hW
 obtain ⟨hi0, hib⟩ := hx
 refine c_seq (c_reg ?_)
 refine l_val (r_lssN rfl rfl rfl rfl) rfl rfl ?_
 refine l_split ?_ ?_
 ·intro hc1
  replace hc1 := of_decide_eq_true hc1
  obtain ⟨b0, o0, ha, hq⟩ := hP.2.ptr (by omega)
  simp only at ha
  subst ha
  refine l_end (n_then (c_seq ?_))
  refine c_true rfl ?_
  refine c_skip (n_then (c_seq (c_block (c_seq (c_reg ?_)))))
  refine aI ?_
  refine bI ?_
  refine l_end (n_then (c_seq (c_reg ?_)))
  refine l_val (r_move (v := .func _ _ _) rfl rfl) rfl rfl ?_
  refine aS ?_
  refine aI ?_
  refine l_val (r_indexAddrSl2 (n := i) Tryz.underlying27 tyC3.size rfl rfl rfl (by omega)) rfl rfl ?_
  refine l_loadF hW tyC3 (v := .int .i64 (at_ l (i))) (hq (i) (by omega)) rfl rfl rfl rfl ?_
  refine l_callVR hW (args := [.int .i64 (at_ l i)]) (cap := [.pointer (some ⟨gx, 0, none⟩)]) (g_opens1 t c gx hc hcl (at_ l i)) en131 ⟨cell_past hW.below hP.1.1, hP.1.2.past hW.below⟩ rfl rfl rfl rfl rfl ?_
  intro W hW
  refine l_split ?_ ?_
  ·intro hc2
   refine l_end (n_then ?_)
   refine c_true rfl ?_
   refine c_seq (c_reg ?_)
   refine aI ?_
   refine bI ?_
   refine l_end (n_then (c_ret (r_block (r_then (r_then (r_block (r_then ?_)))))))
   refine ret_tmp (v := .int .i64 (findI l.length fun k => c.contains (at_ l k))) rfl ?_ ⟨rfl, hW.below⟩
   exact congrArg (Value.int .i64) (find_yes (by omega) hc2 hib).symm
  ·intro hc2
   refine l_end (n_then ?_)
   refine c_false rfl ?_
   refine c_skip (n_block (n_then (c_reg ?_)))
   refine l_val (r_addN (n := 1) rfl rfl rfl (by omega)) rfl rfl ?_
   refine aI ?_
   refine l_end (n_then ?_)
   exact loop_next (i + 1) (by kernel_rfl) hW ⟨by omega, all_upto hib hc2⟩ (by omega)
 ·intro hc1
  replace hc1 := of_decide_eq_false hc1
  refine l_end (n_then (c_seq ?_))
  refine c_false rfl ?_
  refine c_exit (x_then (x_then ?_))
  refine x_hit ?_
  refine n_then (c_seq (c_reg ?_))
  refine bI ?_
  refine l_end (n_then (c_ret ?_))
  refine ret_tmp (v := .int .i64 (findI l.length fun k => c.contains (at_ l k))) rfl ?_ ⟨rfl, hW.below⟩
  exact congrArg (Value.int .i64) (find_no fun k hk => hib k (by omega)).symm

set_option maxRecDepth 10000 in
/-- slices.ContainsFunc[[]int,int] -/
theorem g_ContainsFunc (t : Sl) (c : List Int) (gx : Nat) (hc : c.Pairwise (· ≤ ·)) (hcl : c.length ≤ 100) (aa : Option Addr) (an ac : Nat) (l : List Int) (hl : l.length ≤ 4294967296) : GivesR Tryz.prog 90 [.slice aa an ac, .func (.func 131) #[] #[.pointer (some ⟨gx, 0, none⟩)]].toArray (fun w => (w.cell? ⟨gx, 6, none⟩ = some t.v ∧ RdI w t c) ∧ RdI w ⟨aa, an, ac⟩ l) (.bool (hasP c l)) := by
 refine givesR_of Tryz.func90 rfl (bs := [.slice aa an ac, .func (.func 131) #[] #[.pointer (some ⟨gx, 0, none⟩)], undef, undef, undef, undef, undef, undef, undef]) rfl ?_
 intro w hP hW
 refine c_seq (c_reg ?_)
 refine bB ?_
 refine l_end (n_then (c_seq (c_reg ?_)))
 refine aS ?_
 refine l_val (r_move (v := .func _ _ _) rfl rfl) rfl rfl ?_
 refine l_callR hW (g_IndexFunc t c gx hc hcl aa an ac l hl) en134 ⟨⟨cell_past hW.below hP.1.1, hP.1.2.past hW.below⟩, hP.2.past hW.below⟩ rfl rfl rfl rfl ?_
 intro W hW
 refine l_val (r_geq rfl rfl rfl rfl) rfl rfl ?_
 refine bB ?_
 refine l_end (n_then (c_ret ?_))
 refine ret_tmp (v := .bool (hasP c l)) rfl ?_ ⟨rfl, hW.below⟩
 exact congrArg Value.bool (find_any _ _)

set_option maxRecDepth 10000 in
/-- headend/trace.opens -/
theorem g_opens (b : Bo) (t : Sl) (ra : Option Addr) (rn rc : Nat) (ss : List Sl) (gs : List (List Int)) (hc : b.l.Pairwise (· ≤ ·)) (hl : b.l.length ≤ 100) (hg : gs.length ≤ 100) (hgl : ∀ m ∈ gs, m.length ≤ 4294967296) : GivesX Tryz.prog 85 [.agg (boC b t).toArray, .slice ra rn rc].toArray (fun w => RdI w t b.l ∧ RdG w ⟨ra, rn, rc⟩ ss gs) (NewSl 4 1 gs.length (tl (opl b.l gs gs.length))) := by
 refine givesX_of Tryz.func85 rfl (bs := [.agg (boC b t).toArray, .slice ra rn rc, undef, undef, undef, undef, undef, undef, undef, undef, undef, undef, undef, undef, undef, undef, undef, undef, undef, undef, undef, undef]) rfl ?_
 intro w hP hW
 have hn := hP.2.n
 have hn2 := hP.2.len
 simp only at hn
 refine c_seq (c_reg ?_)
 refine xB hW ?_
 intro g1 W hW
 refine bS ?_
 refine l_end (n_then (c_seq (c_reg ?_)))
 refine bS ?_
 refine l_end (n_then (c_seq (c_seq (c_reg ?_))))
 refine aS ?_
 refine l_val (r_lenSlice Tryz.underlying150 rfl rfl) rfl rfl ?_
 refine aI ?_
 refine l_end (n_then (c_block ?_))
 refine c_loop (fun (x : Nat × Option Addr × Nat × List Blk) (j : Nat → Value) => [.agg (boC b t).toArray, .slice ra rn rc, .pointer (some ⟨g1, 0, none⟩), j 3, j 4, .slice x.2.1 x.1 x.2.2.1, j 6, j 7, .slice ra rn rc, .int .i64 (rn : Int), .int .i64 (x.1 : Int), j 11, j 12, j 13, j 14, j 15, j 16, j 17, j 18, j 19, j 20, j 21]) (fun (x : Nat × Option Addr × Nat × List Blk) => [⟨g1, (boC b t), 31⟩] ++ x.2.2.2) (fun (x : Nat × Option Addr × Nat × List Blk) => x.1 ≤ rn ∧ OwnSl 4 1 x.2.1 x.1 x.2.2.1 (tl (opl b.l gs x.1)) x.2.2.2) (fun (x : Nat × Option Addr × Nat × List Blk) => rn - x.1) (0, none, 0, []) (by kernel_rfl) (by simpa using hW) ⟨Nat.zero_le _, OwnSl.nil 4 1⟩ ?_
 intro x j W hx hW
 obtain ⟨hx, hO⟩ := hx
 refine c_seq (c_reg ?_)
 refine l_val (r_lssN rfl rfl rfl rfl) rfl rfl ?_
 refine l_split ?_ ?_
 ·intro hc1
  replace hc1 := of_decide_eq_true hc1
  obtain ⟨b0, o0, rfl⟩ := hP.2.ptr (by omega)
  obtain ⟨sm, m, hs1, hm1, hcell, hrd⟩ := hP.2.get (i := x.1) (by omega)
  have hgd : gs.getD x.1 [] = m := by rw [List.getD_eq_getElem?_getD, hm1]; rfl
  refine l_end (n_then (c_seq ?_))
  refine c_true rfl ?_
  refine c_skip (n_then (c_seq (c_block (c_seq (c_reg ?_)))))
  refine l_val (r_indexAddrSl2 (n := x.1) Tryz.underlying150 tyC27.size rfl rfl rfl (by omega)) rfl rfl ?_
  refine l_loadF hW tyC27 (v := sm.v) hcell rfl rfl rfl rfl ?_
  refine bS ?_
  refine l_end (n_then (c_reg ?_))
  refine aS ?_
  refine aS ?_
  refine l_val (r_closure (vs := [.pointer (some ⟨g1, 0, none⟩)]) rfl rfl) rfl rfl ?_
  refine l_callR hW (g_ContainsFunc t b.l g1 hc hl sm.a sm.n sm.c m (hgl m (List.mem_of_getElem? hm1))) en90 ⟨⟨(cell_at (hW.at 0 rfl) 6).trans rfl, hP.1.past hW.below⟩, hrd.past hW.below⟩ rfl rfl rfl rfl ?_
  intro W hW
  refine l_buildSliceF hW (bsl155_1_0 _) rfl rfl rfl rfl ?_
  intro gb W hW
  refine l_appendB tyE155 (L := [_, _]) hO hW 0 (N := x.1 + 1) rfl rfl rfl rfl rfl rfl rfl rfl (by simp [Value.oneCell']) (by unfold maxLen; omega) (by omega) ?_
  intro a1 c1 Bs1 W hO1 hW
  replace hO1 := hO1.castx rfl (xs' := tl (opl b.l gs (x.1 + 1))) (by rw [opl_succ, tl_append, hgd]; rfl)
  refine bS ?_
  refine l_end (n_block (n_then (c_reg ?_)))
  refine l_val (r_addN (n := 1) rfl rfl rfl (by omega)) rfl rfl ?_
  refine aI ?_
  refine l_end (n_then ?_)
  exact loop_next (x.1 + 1, a1, c1, Bs1) (by kernel_rfl) (hW.drop 1) ⟨by simp only; omega, hO1⟩ (by simp only; omega)
 ·intro hc1
  replace hc1 := of_decide_eq_false hc1
  refine l_end (n_then (c_seq ?_))
  refine c_false rfl ?_
  refine c_exit (x_then (x_then ?_))
  refine x_hit ?_
  refine n_then (c_seq (c_reg ?_))
  refine aS ?_
  refine bS ?_
  refine l_end (n_then (c_ret ?_))
  refine ret_tmp (v := .slice _ _ _) rfl rfl ?_
  have e : x.1 = gs.length := by omega
  exact ⟨_, _, rfl, ⟨_, _, by rw [e], by rw [← e]; exact hO⟩, hW.sub (List.sublist_append_right _ _)⟩

end Go.Proofs.YtoegpalacppllaaGreat

/- A map of the call's own, with small numbers for keys. No function of the program is in sight here. -/
namespace Go.Proofs.YtoegpalacppllaaGreat
open Go.RowKit Go.MapKept

section
variable {P : Program} {ops : Array Oper} {Q : Exit → Act → World → Prop} {bs : List Value} {us : List (Nat × Value)} {ds : List Deferred} {b : Base} {W : World} {rest : List Oper} {o : Oper} {L : List Blk} {d : Nat} {v : Value} {r : Option (Option Nat)} {n : Nat}
theorem l_makeMap (hW : Cl b L W) {t : TypeId} (hg : o.guard = none) (ho : o.op = .makeMap t none) (hd : o.dst = some d)
    (h : ∀ m W', Cl ⟨b.w, W'⟩ L W' → W'.heap[m]? = some (.map #[] 0) → b.w.heap.size ≤ m → LW r n P ops Q rest (fr bs ((d, .map (some m)) :: us) ds) W') : LW r n P ops Q (o :: rest) (fr bs us ds) W := by
  have hrun : (execOp (ev bs us) o).run P W = .ok (.value (.map (some W.heap.size))) (W.alloc (.map #[] 0)) := by
    unfold execOp
    simp [ho, Instr.makeMap]
  exact l_run hg hrun hd (h _ _ (hW.rebase ((Below.refl _ W).alloc (Nat.le_refl _) _)) (World.alloc_heap_new W _) hW.below.size)
theorem l_insert (hW : Cl b L W) {m k : Nat} {es : Array MapEntry} {clock : Nat} {t kt et : TypeId} {x y z : Operand} (hm : W.heap[m]? = some (.map es clock)) (hb : b.w.heap.size ≤ m) (ht : P.underlying t = some (.map kt et)) (hk : P.underlying kt = some (.int .u8)) (hg : o.guard = none) (ho : o.op = .insert t x y z)
    (hx : ev bs us x = .map (some m)) (hy : ev bs us y = .int .u8 (k : Int)) (hz : ev bs us z = v) (hd : o.dst = none) (hf : Instr.findNow (.int .u8) (.int .u8 (k : Int)) es.toList 0 = some none)
    (h : ∀ W', Cl ⟨b.w, W'⟩ L W' → W'.heap[m]? = some (.map (es.push { key := .int .u8 (k : Int), val := v, born := clock }) (clock + 1)) → LW r n P ops Q rest (fr bs us ds) W') : LW r n P ops Q (o :: rest) (fr bs us ds) W := by
  have hrun : (execOp (ev bs us) o).run P W = .ok .skip (W.putObj m (.map (es.push { key := .int .u8 (k : Int), val := v, born := clock }) (clock + 1))) := by
    unfold execOp
    simp only [ho, hx, hy, hz, Instr.mapUpdate, Sem.run_bind, run_underlying ht, Result.andThen_ok, Go.MapKept.run_getObj_map hm, Go.MapKept.run_checkKey hk (show IsKey (.int .u8) (.int .u8 (k : Int)) from rfl) false 9999, Go.MapKept.run_findKey hk hf, Go.MapKept.run_setObj_map _ hm, Sem.run_pure]
    rfl
  refine LW.skip (wanted_none hg) (by rw [eval_ev]; exact hrun) ?_
  rw [hd, put_none]
  exact h _ (hW.put _ hm rfl hb) (World.putObj_heap_same (Array.getElem?_eq_some_iff.1 hm).1)
theorem r_nilCheck {x : Operand} {g i : Nat} (ho : o.op = .nilCheck x) (hx : ev bs us x = .pointer (some ⟨g, i, none⟩)) : Runs P bs us o (.pointer (some ⟨g, i, none⟩)) := fun w => by
  unfold execOp
  simp [ho, hx]
theorem r_lookup {m k i : Nat} {es : Array MapEntry} {clock : Nat} {t kt et : TypeId} {x y : Operand} (hm : W.heap[m]? = some (.map es clock)) (ht : P.underlying t = some (.map kt et)) (hk : P.underlying kt = some (.int .u8)) (ho : o.op = .lookup t x y false)
    (hx : ev bs us x = .map (some m)) (hy : ev bs us y = .int .u8 (k : Int)) (hf : Instr.findNow (.int .u8) (.int .u8 (k : Int)) es.toList 0 = some (some (i, v))) : (execOp (ev bs us) o).run P W = .ok (.value v) W := by
  unfold execOp
  simp only [ho, hx, hy, Instr.lookup, Sem.run_bind, run_underlying ht, Result.andThen_ok, Go.MapKept.run_getObj_map hm, Sem.run_pure, Go.MapKept.run_checkKey hk (show IsKey (.int .u8) (.int .u8 (k : Int)) from rfl) es.isEmpty 9999, Go.MapKept.run_findKey hk hf]
  rfl
end
end Go.Proofs.YtoegpalacppllaaGreat

/- How a box plays, by the program. -/
namespace Go.Proofs.YtoegpalacppllaaGreat
open Go.RowKit Pl
open Tr Hn
set_option maxRecDepth 10000 in
/-- headend/trace.plays$1 -/
theorem g_plays1 (gv : Nat) (fi : Bool) : GivesR Tryz.prog 165 [.pointer (some ⟨gv, 0, none⟩)].toArray (fun w => w.cell? ⟨gv, 2, none⟩ = some (.bool fi)) (.bool fi) := by
 refine givesR_of Tryz.func165 rfl (bs := [.pointer (some ⟨gv, 0, none⟩), undef, undef, undef]) rfl ?_
 intro w hP hW
 refine c_seq (c_reg ?_)
 refine bB ?_
 refine l_end (n_then (c_seq (c_reg ?_)))
 refine l_val (r_fieldAddr 2 Tryz.underlying206 rfl tyC4.size rfl rfl rfl) rfl rfl ?_
 refine l_loadF hW tyC4 (v := .bool fi) hP rfl rfl rfl rfl ?_
 refine bB ?_
 refine l_end (n_then (c_ret ?_))
 refine ret_tmp (v := .bool fi) rfl ?_ ⟨rfl, hW.below⟩
 rfl

set_option maxRecDepth 10000 in
/-- headend/trace.plays$2 -/
theorem g_plays2  : Gives Tryz.prog 166 [].toArray (.bool false) := by
 refine gives_of Tryz.func166 rfl (bs := [undef]) rfl ?_
 intro w hW
 refine c_seq (c_reg ?_)
 refine bB ?_
 refine l_end (n_then (c_seq (c_reg ?_)))
 refine bB ?_
 refine l_end (n_then (c_ret ?_))
 refine ret_tmp (v := .bool false) rfl ?_ ⟨rfl, hW.below⟩
 rfl

set_option maxRecDepth 10000 in
/-- headend/trace.plays$3 -/
theorem g_plays3  : Gives Tryz.prog 167 [].toArray (.bool true) := by
 refine gives_of Tryz.func167 rfl (bs := [undef]) rfl ?_
 intro w hW
 refine c_seq (c_reg ?_)
 refine bB ?_
 refine l_end (n_then (c_seq (c_reg ?_)))
 refine bB ?_
 refine l_end (n_then (c_ret ?_))
 refine ret_tmp (v := .bool true) rfl ?_ ⟨rfl, hW.below⟩
 rfl

set_option maxRecDepth 10000 in
/-- headend/trace.plays$4 -/
theorem g_plays4 (b : Bo) (r wr gx gv : Nat) (h1 : r ≤ 100) (h2 : wr ≤ 100) : GivesR Tryz.prog 168 [.pointer (some ⟨gx, 0, none⟩), .pointer (some ⟨gv, 0, none⟩)].toArray (fun w => w.cell? ⟨gv, 0, none⟩ = some (.int .i64 (r : Int)) ∧ w.cell? ⟨gv, 1, none⟩ = some (.int .i64 (wr : Int)) ∧ ∀ j v, (kc b.k)[j]? = some v → w.cell? ⟨gx, 10 + j, none⟩ = some v) (.bool (oddB b r wr)) := by
 refine givesR_of Tryz.func168 rfl (bs := [.pointer (some ⟨gx, 0, none⟩), .pointer (some ⟨gv, 0, none⟩), undef, undef, undef, undef, undef, undef, undef, undef, undef, undef, undef, undef, undef]) rfl ?_
 intro w hP hW
 refine c_seq (c_reg ?_)
 refine bB ?_
 refine l_end (n_then (c_seq (c_reg ?_)))
 refine l_val (r_fieldAddr 10 Tryz.underlying31 rfl tyA29.size rfl rfl rfl) rfl rfl ?_
 refine l_loadFs hW tyA29 hP.2.2 (kc_len _) rfl rfl rfl rfl ?_
 refine l_val (r_fieldAddr 1 Tryz.underlying206 rfl tyC3.size rfl rfl rfl) rfl rfl ?_
 refine l_loadF hW tyC3 (v := .int .i64 (wr : Int)) hP.2.1 rfl rfl rfl rfl ?_
 refine l_val (r_mulN (m := 64) rfl rfl rfl (by omega)) rfl rfl ?_
 refine l_val (r_addN (m := 4294967296) rfl rfl rfl (by omega)) rfl rfl ?_
 refine l_val (r_fieldAddr 0 Tryz.underlying206 rfl tyC3.size rfl rfl rfl) rfl rfl ?_
 refine l_loadF hW tyC3 (v := .int .i64 (r : Int)) hP.1 rfl rfl rfl rfl ?_
 refine l_val (r_addN rfl rfl rfl (by omega)) rfl rfl ?_
 refine l_val (r_conv_i64_u64 Tryz.underlying3 Tryz.underlying22 rfl rfl) rfl rfl ?_
 refine l_call hW (g_Number b.k (BitVec.ofNat 64 (4294967296 + 64 * wr + r)) 2#64) en129 rfl rfl rfl rfl ?_
 intro W hW
 refine l_val (r_eql_u64 (y := 1#64) rfl rfl rfl rfl) rfl rfl ?_
 refine bB ?_
 refine l_end (n_then (c_ret ?_))
 refine ret_tmp (v := .bool (oddB b r wr)) rfl ?_ ⟨rfl, hW.below⟩
 rfl

theorem boC_kc (b : Bo) (t : Sl) {j : Nat} {v : Value} (h : (kc b.k)[j]? = some v) : (boC b t)[10 + j]? = some v := by
 have hj : j < 16 := by have := (List.getElem?_eq_some_iff.1 h).1; rw [kc_len] at this; exact this
 show ([_, _, _, _, _, _, _, _, _, _] ++ (kc b.k ++ [_, _]))[10 + j]? = _
 rw [List.getElem?_append_right (by simp), List.getElem?_append_left (by rw [kc_len]; simp; omega)]
 simpa using h
set_option maxRecDepth 10000 in
/-- headend/trace.plays -/
theorem g_plays_m1 (b : Bo) (t : Sl) (r wr : Nat) (fi : Bool) (hm : b.m = 1) : Gives Tryz.prog 130 [.agg (boC b t).toArray, .agg [.int .i64 (r : Int), .int .i64 (wr : Int), .bool fi].toArray].toArray (.bool (playB b r wr fi)) := by
 refine gives_of Tryz.func130 rfl (bs := [.agg (boC b t).toArray, .agg [.int .i64 (r : Int), .int .i64 (wr : Int), .bool fi].toArray, undef, undef, undef, undef, undef, undef, undef, undef, undef, undef, undef, undef, undef]) rfl ?_
 intro w hW
 refine c_seq (c_reg ?_)
 refine xB hW ?_
 intro g1 W hW
 refine xB hW ?_
 intro g2 W hW
 refine bB ?_
 refine l_end (n_then (c_seq (c_reg ?_)))
 refine l_makeMap hW rfl rfl rfl ?_
 intro gm W hW hM hbm
 refine l_val (r_closure (vs := [.pointer (some ⟨g2, 0, none⟩)]) rfl rfl) rfl rfl ?_
 refine l_insert (k := 1) hW hM hbm Tryz.underlying241 Tryz.underlying5 rfl rfl rfl rfl rfl rfl (by first | rfl | (simp [Go.Instr.findNow, Go.Instr.sameNow]; done)) ?_
 intro W hW hM
 refine l_insert (k := 2) hW hM hbm Tryz.underlying241 Tryz.underlying5 rfl rfl rfl rfl rfl rfl (by first | rfl | (simp [Go.Instr.findNow, Go.Instr.sameNow]; done)) ?_
 intro W hW hM
 refine l_insert (k := 3) hW hM hbm Tryz.underlying241 Tryz.underlying5 rfl rfl rfl rfl rfl rfl (by first | rfl | (simp [Go.Instr.findNow, Go.Instr.sameNow]; done)) ?_
 intro W hW hM
 refine l_val (r_closure (vs := [.pointer (some ⟨g1, 0, none⟩), .pointer (some ⟨g2, 0, none⟩)]) rfl rfl) rfl rfl ?_
 refine l_insert (k := 4) hW hM hbm Tryz.underlying241 Tryz.underlying5 rfl rfl rfl rfl rfl rfl (by first | rfl | (simp [Go.Instr.findNow, Go.Instr.sameNow]; done)) ?_
 intro W hW hM
 refine l_val (r_move (v := .map _) rfl rfl) rfl rfl ?_
 refine l_val (r_assign (v := .map _) rfl rfl) rfl rfl ?_
 refine l_end (n_then (c_seq (c_reg ?_)))
 refine l_val (r_move (v := .map _) rfl rfl) rfl rfl ?_
 refine l_val (r_fieldAddr 7 Tryz.underlying31 rfl tyC5.size rfl rfl rfl) rfl rfl ?_
 refine dC hW 1 tyC5 ?_
 refine l_run rfl (r_lookup (v := .func (.func 165) #[] #[.pointer (some ⟨g2, 0, none⟩)]) (k := 1) (i := 0) hM Tryz.underlying241 Tryz.underlying5 rfl rfl (congrArg (Value.int .u8) hm) (by first | rfl | (simp [Go.Instr.findNow, Go.Instr.sameNow]; done))) rfl ?_
 refine l_callVR hW (args := []) (cap := [.pointer (some ⟨g2, 0, none⟩)]) (g_plays1 g2 fi) en165 ((cell_at (hW.at 0 rfl) 2).trans rfl) rfl rfl rfl rfl rfl ?_
 intro W hW
 refine bB ?_
 refine l_end (n_then (c_ret ?_))
 refine ret_tmp (v := .bool (playB b r wr fi)) rfl ?_ ⟨rfl, hW.below⟩
 exact congrArg Value.bool (play_1 hm).symm

set_option maxRecDepth 10000 in
/-- headend/trace.plays -/
theorem g_plays_m2 (b : Bo) (t : Sl) (r wr : Nat) (fi : Bool) (hm : b.m = 2) : Gives Tryz.prog 130 [.agg (boC b t).toArray, .agg [.int .i64 (r : Int), .int .i64 (wr : Int), .bool fi].toArray].toArray (.bool (playB b r wr fi)) := by
 refine gives_of Tryz.func130 rfl (bs := [.agg (boC b t).toArray, .agg [.int .i64 (r : Int), .int .i64 (wr : Int), .bool fi].toArray, undef, undef, undef, undef, undef, undef, undef, undef, undef, undef, undef, undef, undef]) rfl ?_
 intro w hW
 refine c_seq (c_reg ?_)
 refine xB hW ?_
 intro g1 W hW
 refine xB hW ?_
 intro g2 W hW
 refine bB ?_
 refine l_end (n_then (c_seq (c_reg ?_)))
 refine l_makeMap hW rfl rfl rfl ?_
 intro gm W hW hM hbm
 refine l_val (r_closure (vs := [.pointer (some ⟨g2, 0, none⟩)]) rfl rfl) rfl rfl ?_
 refine l_insert (k := 1) hW hM hbm Tryz.underlying241 Tryz.underlying5 rfl rfl rfl rfl rfl rfl (by first | rfl | (simp [Go.Instr.findNow, Go.Instr.sameNow]; done)) ?_
 intro W hW hM
 refine l_insert (k := 2) hW hM hbm Tryz.underlying241 Tryz.underlying5 rfl rfl rfl rfl rfl rfl (by first | rfl | (simp [Go.Instr.findNow, Go.Instr.sameNow]; done)) ?_
 intro W hW hM
 refine l_insert (k := 3) hW hM hbm Tryz.underlying241 Tryz.underlying5 rfl rfl rfl rfl rfl rfl (by first | rfl | (simp [Go.Instr.findNow, Go.Instr.sameNow]; done)) ?_
 intro W hW hM
 refine l_val (r_closure (vs := [.pointer (some ⟨g1, 0, none⟩), .pointer (some ⟨g2, 0, none⟩)]) rfl rfl) rfl rfl ?_
 refine l_insert (k := 4) hW hM hbm Tryz.underlying241 Tryz.underlying5 rfl rfl rfl rfl rfl rfl (by first | rfl | (simp [Go.Instr.findNow, Go.Instr.sameNow]; done)) ?_
 intro W hW hM
 refine l_val (r_move (v := .map _) rfl rfl) rfl rfl ?_
 refine l_val (r_assign (v := .map _) rfl rfl) rfl rfl ?_
 refine l_end (n_then (c_seq (c_reg ?_)))
 refine l_val (r_move (v := .map _) rfl rfl) rfl rfl ?_
 refine l_val (r_fieldAddr 7 Tryz.underlying31 rfl tyC5.size rfl rfl rfl) rfl rfl ?_
 refine dC hW 1 tyC5 ?_
 refine l_run rfl (r_lookup (v := .func (.func 166) #[] #[]) (k := 2) (i := 1) hM Tryz.underlying241 Tryz.underlying5 rfl rfl (congrArg (Value.int .u8) hm) (by first | rfl | (simp [Go.Instr.findNow, Go.Instr.sameNow]; done))) rfl ?_
 refine l_callV hW (args := []) (cap := []) g_plays2 en166 rfl rfl rfl rfl rfl ?_
 intro W hW
 refine bB ?_
 refine l_end (n_then (c_ret ?_))
 refine ret_tmp (v := .bool (playB b r wr fi)) rfl ?_ ⟨rfl, hW.below⟩
 exact congrArg Value.bool (play_2 (by omega) (by omega) (by omega)).symm

set_option maxRecDepth 10000 in
/-- headend/trace.plays -/
theorem g_plays_m3 (b : Bo) (t : Sl) (r wr : Nat) (fi : Bool) (hm : b.m = 3) : Gives Tryz.prog 130 [.agg (boC b t).toArray, .agg [.int .i64 (r : Int), .int .i64 (wr : Int), .bool fi].toArray].toArray (.bool (playB b r wr fi)) := by
 refine gives_of Tryz.func130 rfl (bs := [.agg (boC b t).toArray, .agg [.int .i64 (r : Int), .int .i64 (wr : Int), .bool fi].toArray, undef, undef, undef, undef, undef, undef, undef, undef, undef, undef, undef, undef, undef]) rfl ?_
 intro w hW
 refine c_seq (c_reg ?_)
 refine xB hW ?_
 intro g1 W hW
 refine xB hW ?_
 intro g2 W hW
 refine bB ?_
 refine l_end (n_then (c_seq (c_reg ?_)))
 refine l_makeMap hW rfl rfl rfl ?_
 intro gm W hW hM hbm
 refine l_val (r_closure (vs := [.pointer (some ⟨g2, 0, none⟩)]) rfl rfl) rfl rfl ?_
 refine l_insert (k := 1) hW hM hbm Tryz.underlying241 Tryz.underlying5 rfl rfl rfl rfl rfl rfl (by first | rfl | (simp [Go.Instr.findNow, Go.Instr.sameNow]; done)) ?_
 intro W hW hM
 refine l_insert (k := 2) hW hM hbm Tryz.underlying241 Tryz.underlying5 rfl rfl rfl rfl rfl rfl (by first | rfl | (simp [Go.Instr.findNow, Go.Instr.sameNow]; done)) ?_
 intro W hW hM
 refine l_insert (k := 3) hW hM hbm Tryz.underlying241 Tryz.underlying5 rfl rfl rfl rfl rfl rfl (by first | rfl | (simp [Go.Instr.findNow, Go.Instr.sameNow]; done)) ?_
 intro W hW hM
 refine l_val (r_closure (vs := [.pointer (some ⟨g1, 0, none⟩), .pointer (some ⟨g2, 0, none⟩)]) rfl rfl) rfl rfl ?_
 refine l_insert (k := 4) hW hM hbm Tryz.underlying241 Tryz.underlying5 rfl rfl rfl rfl rfl rfl (by first | rfl | (simp [Go.Instr.findNow, Go.Instr.sameNow]; done)) ?_
 intro W hW hM
 refine l_val (r_move (v := .map _) rfl rfl) rfl rfl ?_
 refine l_val (r_assign (v := .map _) rfl rfl) rfl rfl ?_
 refine l_end (n_then (c_seq (c_reg ?_)))
 refine l_val (r_move (v := .map _) rfl rfl) rfl rfl ?_
 refine l_val (r_fieldAddr 7 Tryz.underlying31 rfl tyC5.size rfl rfl rfl) rfl rfl ?_
 refine dC hW 1 tyC5 ?_
 refine l_run rfl (r_lookup (v := .func (.func 167) #[] #[]) (k := 3) (i := 2) hM Tryz.underlying241 Tryz.underlying5 rfl rfl (congrArg (Value.int .u8) hm) (by first | rfl | (simp [Go.Instr.findNow, Go.Instr.sameNow]; done))) rfl ?_
 refine l_callV hW (args := []) (cap := []) g_plays3 en167 rfl rfl rfl rfl rfl ?_
 intro W hW
 refine bB ?_
 refine l_end (n_then (c_ret ?_))
 refine ret_tmp (v := .bool (playB b r wr fi)) rfl ?_ ⟨rfl, hW.below⟩
 exact congrArg Value.bool (play_3 hm).symm

set_option maxRecDepth 10000 in
/-- headend/trace.plays -/
theorem g_plays_m4 (b : Bo) (t : Sl) (r wr : Nat) (fi : Bool) (hm : b.m = 4) (h1 : r ≤ 100) (h2 : wr ≤ 100) : Gives Tryz.prog 130 [.agg (boC b t).toArray, .agg [.int .i64 (r : Int), .int .i64 (wr : Int), .bool fi].toArray].toArray (.bool (playB b r wr fi)) := by
 refine gives_of Tryz.func130 rfl (bs := [.agg (boC b t).toArray, .agg [.int .i64 (r : Int), .int .i64 (wr : Int), .bool fi].toArray, undef, undef, undef, undef, undef, undef, undef, undef, undef, undef, undef, undef, undef]) rfl ?_
 intro w hW
 refine c_seq (c_reg ?_)
 refine xB hW ?_
 intro g1 W hW
 refine xB hW ?_
 intro g2 W hW
 refine bB ?_
 refine l_end (n_then (c_seq (c_reg ?_)))
 refine l_makeMap hW rfl rfl rfl ?_
 intro gm W hW hM hbm
 refine l_val (r_closure (vs := [.pointer (some ⟨g2, 0, none⟩)]) rfl rfl) rfl rfl ?_
 refine l_insert (k := 1) hW hM hbm Tryz.underlying241 Tryz.underlying5 rfl rfl rfl rfl rfl rfl (by first | rfl | (simp [Go.Instr.findNow, Go.Instr.sameNow]; done)) ?_
 intro W hW hM
 refine l_insert (k := 2) hW hM hbm Tryz.underlying241 Tryz.underlying5 rfl rfl rfl rfl rfl rfl (by first | rfl | (simp [Go.Instr.findNow, Go.Instr.sameNow]; done)) ?_
 intro W hW hM
 refine l_insert (k := 3) hW hM hbm Tryz.underlying241 Tryz.underlying5 rfl rfl rfl rfl rfl rfl (by first | rfl | (simp [Go.Instr.findNow, Go.Instr.sameNow]; done)) ?_
 intro W hW hM
 refine l_val (r_closure (vs := [.pointer (some ⟨g1, 0, none⟩), .pointer (some ⟨g2, 0, none⟩)]) rfl rfl) rfl rfl ?_
 refine l_insert (k := 4) hW hM hbm Tryz.underlying241 Tryz.underlying5 rfl rfl rfl rfl rfl rfl (by first | rfl | (simp [Go.Instr.findNow, Go.Instr.sameNow]; done)) ?_
 intro W hW hM
 refine l_val (r_move (v := .map _) rfl rfl) rfl rfl ?_
 refine l_val (r_assign (v := .map _) rfl rfl) rfl rfl ?_
 refine l_end (n_then (c_seq (c_reg ?_)))
 refine l_val (r_move (v := .map _) rfl rfl) rfl rfl ?_
 refine l_val (r_fieldAddr 7 Tryz.underlying31 rfl tyC5.size rfl rfl rfl) rfl rfl ?_
 refine dC hW 1 tyC5 ?_
 refine l_run rfl (r_lookup (v := .func (.func 168) #[] #[.pointer (some ⟨g1, 0, none⟩), .pointer (some ⟨g2, 0, none⟩)]) (k := 4) (i := 3) hM Tryz.underlying241 Tryz.underlying5 rfl rfl (congrArg (Value.int .u8) hm) (by first | rfl | (simp [Go.Instr.findNow, Go.Instr.sameNow]; done))) rfl ?_
 refine l_callVR hW (args := []) (cap := [.pointer (some ⟨g1, 0, none⟩), .pointer (some ⟨g2, 0, none⟩)]) (g_plays4 b r wr g1 g2 h1 h2) en168 ⟨(cell_at (hW.at 0 rfl) 0).trans rfl, (cell_at (hW.at 0 rfl) 1).trans rfl, fun j v hj => (cell_at (hW.at 1 rfl) (10 + j)).trans (boC_kc b t hj)⟩ rfl rfl rfl rfl rfl ?_
 intro W hW
 refine bB ?_
 refine l_end (n_then (c_ret ?_))
 refine ret_tmp (v := .bool (playB b r wr fi)) rfl ?_ ⟨rfl, hW.below⟩
 exact congrArg Value.bool (play_4 hm).symm

/-- how a box plays -/
theorem g_plays (b : Bo) (t : Sl) (r wr : Nat) (fi : Bool) (h0 : 1 ≤ b.m) (h4 : b.m ≤ 4) (h1 : r ≤ 100) (h2 : wr ≤ 100) : Gives Tryz.prog 130 [.agg (boC b t).toArray, .agg [.int .i64 (r : Int), .int .i64 (wr : Int), .bool fi].toArray].toArray (.bool (playB b r wr fi)) := by
 have : b.m = 1 ∨ b.m = 2 ∨ b.m = 3 ∨ b.m = 4 := by omega
 rcases this with h | h | h | h
 ·exact g_plays_m1 b t r wr fi h
 ·exact g_plays_m2 b t r wr fi h
 ·exact g_plays_m3 b t r wr fi h
 ·exact g_plays_m4 b t r wr fi h h1 h2
end Go.Proofs.YtoegpalacppllaaGreat

/- A query, by the program: the box. -/
namespace Go.Proofs.YtoegpalacppllaaGreat
open Go.RowKit Pl
open Tr Hn
theorem play_congr {b b2 : Bo} {r w : Nat} {fi : Bool} (em : b2.m = b.m) (ek : b2.k = b.k) : playB b2 r w fi = playB b r w fi := by unfold playB oddB; rw [em, ek]
theorem boC_setAR (b : Bo) (t : Sl) (z : Int) (R : List Value) : (boC b t ++ R).set 26 (.int .i64 z) = boC { b with a := z } t ++ R := rfl
theorem boC_setXR (b : Bo) (t : Sl) (z : Int) (R : List Value) : (boC b t ++ R).set 27 (.int .i64 z) = boC { b with x := z } t ++ R := rfl
theorem boC_keyR (b : Bo) (t : Sl) (R : List Value) : ((boC b t ++ R).drop 10).take 16 = kc b.k := by
 rw [List.drop_append_of_le_length (by rw [boC_len]; decide), List.take_append_of_le_length (by rw [List.length_drop, boC_len]; decide)]
 exact boC_key b t
theorem boC_boxR (b : Bo) (t : Sl) (R : List Value) : ((boC b t ++ R).drop 0).take 28 = boC b t := by
 rw [List.drop_zero]
 exact List.take_left' (boC_len b t)
set_option maxRecDepth 10000 in
set_option maxHeartbeats 4000000 in
/-- headend/trace.ask -/
theorem g_askG (R : List Value) (ty : TypeId) (q : Bo) (t : Sl) (gx : Nat) (oa : Option Addr) (on oc : Nat) (o : List Bool) (f : Int) (n0 : 0 ≤ q.n) (n8 : q.n ≤ 8) (a0 : 0 ≤ q.a) (a1 : q.a ≤ 100000) (x1 : q.x ≤ q.a) (x0 : 0 ≤ q.x) (m1 : 1 ≤ q.m) (m4 : q.m ≤ 4) (ho : o.length ≤ 100) : GivesS Tryz.prog 84 [.pointer (some ⟨gx, 0, none⟩), .slice oa on oc, .int .i64 f].toArray (fun b0 L => ∀ W, Cl b0 L W → RdT W ⟨oa, on, oc⟩ o) [⟨gx, (boC q t ++ R), ty⟩] (fun v B => v = .bool (plays q o f) ∧ B = [⟨gx, boC (askd q o f) t ++ R, ty⟩]) := by
 refine givesS_of Tryz.func84 rfl (bs := [.pointer (some ⟨gx, 0, none⟩), .slice oa on oc, .int .i64 f, undef, undef, undef, undef, undef, undef, undef, undef, undef, undef, undef, undef, undef, undef, undef, undef, undef, undef, undef, undef, undef, undef, undef, undef, undef, undef, undef, undef, undef, undef, undef, undef, undef, undef, undef, undef, undef, undef, undef, undef, undef, undef, undef, undef, undef, undef, undef, undef, undef, undef, undef, undef, undef, undef, undef, undef, undef, undef, undef, undef, undef, undef, undef, undef, undef, undef, undef, undef, undef, undef, undef, undef, undef, undef, undef, undef, undef, undef, undef, undef, undef, undef, undef, undef, undef, undef, undef, undef, undef, undef, undef, undef, undef, undef, undef, undef, undef, undef, undef, undef, undef, undef, undef, undef, undef, undef, undef, undef, undef, undef, undef, undef, undef, undef, undef, undef, undef, undef, undef, undef, undef, undef, undef, undef, undef, undef, undef]) rfl ?_
 intro b L w hP hW
 have hn : on = o.length := (hP w (hW.sub (List.sublist_append_right _ _))).len
 have ha : q.a = (q.a.toNat : Int) := by omega
 have hb : q.n + 1 = ((q.n.toNat + 1 : Nat) : Int) := by omega
 refine c_seq (c_reg ?_)
 refine bB ?_
 refine l_end (n_then (c_seq (c_reg ?_)))
 refine l_alloc hW tyZ206 rfl rfl rfl ?_
 intro g1 W hW
 refine l_end (n_then (c_seq (c_seq (c_reg ?_))))
 refine aS ?_
 refine l_val (r_lenSlice Tryz.underlying155 rfl rfl) rfl rfl ?_
 refine aI ?_
 refine l_end (n_then (c_block ?_))
 refine c_loop (fun (x : Nat × Nat × Nat × Bool) (j : Nat → Value) => [.pointer (some ⟨gx, 0, none⟩), .slice oa on oc, .int .i64 f, j 3, j 4, j 5, .bool false, .pointer (some ⟨g1, 0, none⟩), j 8, j 9, j 10, j 11, j 12, j 13, .slice oa on oc, .int .i64 (on : Int), .int .i64 (x.1 : Int), j 17, j 18, j 19, j 20, j 21, j 22, j 23, j 24, j 25, j 26, j 27, j 28, j 29, j 30, j 31, j 32, j 33, j 34, j 35, j 36, j 37, j 38, j 39, j 40, j 41, j 42, j 43, j 44, j 45, j 46, j 47, j 48, j 49, j 50, j 51, j 52, j 53, j 54, j 55, j 56, j 57, j 58, j 59, j 60, j 61, j 62, j 63, j 64, j 65, j 66, j 67, j 68, j 69, j 70, j 71, j 72, j 73, j 74, j 75, j 76, j 77, j 78, j 79, j 80, j 81, j 82, j 83, j 84, j 85, j 86, j 87, j 88, j 89, j 90, j 91, j 92, j 93, j 94, j 95, j 96, j 97, j 98, j 99, j 100, j 101, j 102, j 103, j 104, j 105, j 106, j 107, j 108, j 109, j 110, j 111, j 112, j 113, j 114, j 115, j 116, j 117, j 118, j 119, j 120, j 121, j 122, j 123, j 124, j 125, j 126, j 127, j 128, j 129]) (fun (x : Nat × Nat × Nat × Bool) => [⟨g1, [.int .i64 (x.2.1 : Int), .int .i64 (x.2.2.1 : Int), .bool x.2.2.2], 206⟩, ⟨gx, (boC q t ++ R), ty⟩] ++ L) (fun (x : Nat × Nat × Nat × Bool) => x.1 ≤ on ∧ stp o f x.1 = x.2) (fun (x : Nat × Nat × Nat × Bool) => on - x.1) (0, 0, 0, false) (by kernel_rfl) hW ⟨Nat.zero_le _, rfl⟩ ?_
 intro x j W hx hW
 obtain ⟨hx, hst⟩ := hx
 have hle := stp_le o f x.1
 rw [hst] at hle
 refine c_seq (c_reg ?_)
 refine l_val (r_lssN rfl rfl rfl rfl) rfl rfl ?_
 refine l_split ?_ ?_
 ·intro hc1
  replace hc1 := of_decide_eq_true hc1
  obtain ⟨b0, o0, hao, hc⟩ := (hP W (hW.sub (List.sublist_append_right _ _))).ptr (by omega)
  simp only at hao
  subst hao
  refine l_end (n_then (c_seq ?_))
  refine c_true rfl ?_
  refine c_skip (n_then (c_seq (c_block (c_seq (c_reg ?_)))))
  refine aI ?_
  refine l_val (r_indexAddrSl2 (n := x.1) Tryz.underlying155 tyC4.size rfl rfl rfl (by omega)) rfl rfl ?_
  refine l_loadW tyC4 (v := .bool (o.getD x.1 false)) (hc x.1 (by omega)) rfl rfl rfl rfl ?_
  refine l_split ?_ ?_
  ·intro hc2
   refine bI ?_
   refine bB ?_
   refine l_end (n_then (c_block (c_seq (c_reg ?_))))
   refine aB ?_
   refine l_val (r_not rfl rfl) rfl rfl ?_
   refine bB ?_
   refine l_end (n_then ?_)
   refine c_false rfl ?_
   refine c_seq (c_reg ?_)
   refine aI ?_
   refine aI ?_
   refine l_val (r_lss rfl rfl rfl rfl) rfl rfl ?_
   refine l_split ?_ ?_
   ·intro hc3
    replace hc3 := of_decide_eq_true hc3
    refine bB ?_
    refine l_end (n_then ?_)
    refine c_true rfl ?_
    refine c_reg ?_
    refine l_val (r_fieldAddr 1 Tryz.underlying206 rfl tyC3.size rfl rfl rfl) rfl rfl ?_
    refine dC hW 0 tyC3 ?_
    refine l_val (r_addN (n := 1) rfl rfl rfl (by omega)) rfl rfl ?_
    refine l_val (r_fieldAddr 1 Tryz.underlying206 rfl tyC3.size rfl rfl rfl) rfl rfl ?_
    refine l_storeC hW 0 tyC3 (v := .int _ _) rfl rfl rfl rfl rfl rfl (by first | rfl | omega | (simp; done) | (simp; omega)) rfl ?_
    intro W hW
    refine l_end (n_block (n_block (n_then (c_reg ?_))))
    refine l_val (r_addN (n := 1) rfl rfl rfl (by omega)) rfl rfl ?_
    refine aI ?_
    refine l_end (n_then ?_)
    exact loop_next (x.1 + 1, x.2.1, x.2.2.1 + 1, x.2.2.2) (by kernel_rfl) hW ⟨by simp only; omega, by simp only [stp_wrong hc2 hc3, hst]⟩ (by simp only; omega)
   ·intro hc3
    replace hc3 := of_decide_eq_false hc3
    refine bB ?_
    refine l_end (n_then ?_)
    refine c_false rfl ?_
    refine c_seq (c_reg ?_)
    refine l_val (r_fieldAddr 2 Tryz.underlying206 rfl tyC4.size rfl rfl rfl) rfl rfl ?_
    refine dC hW 0 tyC4 ?_
    refine l_split ?_ ?_
    ·intro hc4
     refine aB ?_
     refine lN ?_
     refine lN ?_
     refine lN ?_
     refine lN ?_
     refine lN ?_
     refine lN ?_
     refine kB ?_
     refine l_val (r_fieldAddr 2 Tryz.underlying206 rfl tyC4.size rfl rfl rfl) rfl rfl ?_
     refine l_storeC hW 0 tyC4 (v := .bool _) rfl rfl rfl rfl rfl rfl (by first | rfl | omega | (simp; done) | (simp; omega)) rfl ?_
     intro W hW
     refine l_end (n_then (c_reg ?_))
     refine l_val (r_fieldAddr 0 Tryz.underlying206 rfl tyC3.size rfl rfl rfl) rfl rfl ?_
     refine dC hW 0 tyC3 ?_
     refine l_val (r_addN (n := 1) rfl rfl rfl (by omega)) rfl rfl ?_
     refine l_val (r_fieldAddr 0 Tryz.underlying206 rfl tyC3.size rfl rfl rfl) rfl rfl ?_
     refine l_storeC hW 0 tyC3 (v := .int _ _) rfl rfl rfl rfl rfl rfl (by first | rfl | omega | (simp; done) | (simp; omega)) rfl ?_
     intro W hW
     refine l_end (n_block (n_block (n_then (c_reg ?_))))
     refine l_val (r_addN (n := 1) rfl rfl rfl (by omega)) rfl rfl ?_
     refine aI ?_
     refine l_end (n_then ?_)
     exact loop_next (x.1 + 1, x.2.1 + 1, x.2.2.1, true) (by kernel_rfl) hW ⟨by simp only; omega, by simp only [stp_right hc2 hc3, hst]; exact congrArg (fun z => (x.2.1 + 1, x.2.2.1, z)) (by rw [hc4]; rfl)⟩ (by simp only; omega)
    ·intro hc4
     refine aB ?_
     refine l_valG (r_fieldAddr 1 Tryz.underlying206 rfl tyC3.size rfl rfl rfl) (by kernel_rfl) rfl ?_
     refine dG hW 0 tyC3 ?_
     refine l_valG (r_fieldAddr 0 Tryz.underlying206 rfl tyC3.size rfl rfl rfl) (by kernel_rfl) rfl ?_
     refine dG hW 0 tyC3 ?_
     refine l_valG (r_addN rfl rfl rfl (by omega)) (by kernel_rfl) rfl ?_
     refine l_valG (r_eqlN (n := 0) rfl rfl rfl rfl) (by kernel_rfl) rfl ?_
     refine l_split ?_ ?_
     ·intro hc5
      replace hc5 := of_decide_eq_true hc5
      refine kB ?_
      refine l_val (r_fieldAddr 2 Tryz.underlying206 rfl tyC4.size rfl rfl rfl) rfl rfl ?_
      refine l_storeC hW 0 tyC4 (v := .bool _) rfl rfl rfl rfl rfl rfl (by first | rfl | omega | (simp; done) | (simp; omega)) rfl ?_
      intro W hW
      refine l_end (n_then (c_reg ?_))
      refine l_val (r_fieldAddr 0 Tryz.underlying206 rfl tyC3.size rfl rfl rfl) rfl rfl ?_
      refine dC hW 0 tyC3 ?_
      refine l_val (r_addN (n := 1) rfl rfl rfl (by omega)) rfl rfl ?_
      refine l_val (r_fieldAddr 0 Tryz.underlying206 rfl tyC3.size rfl rfl rfl) rfl rfl ?_
      refine l_storeC hW 0 tyC3 (v := .int _ _) rfl rfl rfl rfl rfl rfl (by first | rfl | omega | (simp; done) | (simp; omega)) rfl ?_
      intro W hW
      refine l_end (n_block (n_block (n_then (c_reg ?_))))
      refine l_val (r_addN (n := 1) rfl rfl rfl (by omega)) rfl rfl ?_
      refine aI ?_
      refine l_end (n_then ?_)
      exact loop_next (x.1 + 1, x.2.1 + 1, x.2.2.1, true) (by kernel_rfl) hW ⟨by simp only; omega, by simp only [stp_right hc2 hc3, hst]; exact congrArg (fun z => (x.2.1 + 1, x.2.2.1, z)) (by rw [hc4, decide_eq_true (by omega)]; rfl)⟩ (by simp only; omega)
     ·intro hc5
      replace hc5 := of_decide_eq_false hc5
      refine kB ?_
      refine l_val (r_fieldAddr 2 Tryz.underlying206 rfl tyC4.size rfl rfl rfl) rfl rfl ?_
      refine l_storeC hW 0 tyC4 (v := .bool _) rfl rfl rfl rfl rfl rfl (by first | rfl | omega | (simp; done) | (simp; omega)) rfl ?_
      intro W hW
      refine l_end (n_then (c_reg ?_))
      refine l_val (r_fieldAddr 0 Tryz.underlying206 rfl tyC3.size rfl rfl rfl) rfl rfl ?_
      refine dC hW 0 tyC3 ?_
      refine l_val (r_addN (n := 1) rfl rfl rfl (by omega)) rfl rfl ?_
      refine l_val (r_fieldAddr 0 Tryz.underlying206 rfl tyC3.size rfl rfl rfl) rfl rfl ?_
      refine l_storeC hW 0 tyC3 (v := .int _ _) rfl rfl rfl rfl rfl rfl (by first | rfl | omega | (simp; done) | (simp; omega)) rfl ?_
      intro W hW
      refine l_end (n_block (n_block (n_then (c_reg ?_))))
      refine l_val (r_addN (n := 1) rfl rfl rfl (by omega)) rfl rfl ?_
      refine aI ?_
      refine l_end (n_then ?_)
      exact loop_next (x.1 + 1, x.2.1 + 1, x.2.2.1, false) (by kernel_rfl) hW ⟨by simp only; omega, by simp only [stp_right hc2 hc3, hst]; exact congrArg (fun z => (x.2.1 + 1, x.2.2.1, z)) (by rw [hc4, decide_eq_false (by omega)]; rfl)⟩ (by simp only; omega)
  ·intro hc2
   refine bI ?_
   refine bB ?_
   refine l_end (n_then (c_block (c_seq (c_reg ?_))))
   refine aB ?_
   refine l_val (r_not rfl rfl) rfl rfl ?_
   refine bB ?_
   refine l_end (n_then ?_)
   refine c_true rfl ?_
   refine c_skip (n_block (n_block (n_then (c_reg ?_))))
   refine l_val (r_addN (n := 1) rfl rfl rfl (by omega)) rfl rfl ?_
   refine aI ?_
   refine l_end (n_then ?_)
   exact loop_next (x.1 + 1, x.2) (by kernel_rfl) hW ⟨by simp only; omega, (stp_no hc2).trans hst⟩ (by simp only; omega)
 ·intro hc1
  replace hc1 := of_decide_eq_false hc1
  refine l_end (n_then (c_seq ?_))
  refine c_false rfl ?_
  refine c_exit (x_then (x_then ?_))
  refine x_hit ?_
  refine n_then (c_seq ?_)
  refine c_regY hW [] [.q, .q, .q, .q, .q, .q, .q, .q, .q, .q, .q] [0, 1, 3, 7, 0, 16, 48, 112, 240, 15, 1023] (by kernel_rfl) (by kernel_rfl) ?_
  refine y_val (r_move (v := .pointer _) rfl rfl) rfl rfl ?_
  refine y_val (r_nilCheck rfl rfl) rfl rfl ?_
  refine y_val (r_fieldAddr 26 Tryz.underlying31 rfl tyC3.size rfl rfl rfl) rfl rfl ?_
  refine y_loadC 1 tyC3 rfl rfl rfl rfl rfl rfl (by decide) ?_
  refine y_val (r_move (v := .pointer _) rfl rfl) rfl rfl ?_
  refine y_val (r_nilCheck rfl rfl) rfl rfl ?_
  refine y_val (r_fieldAddr 8 Tryz.underlying31 rfl tyC3.size rfl rfl rfl) rfl rfl ?_
  refine y_loadC 1 tyC3 rfl rfl rfl rfl rfl rfl (by decide) ?_
  refine y_val (r_addZ rfl rfl rfl (by omega)) rfl rfl ?_
  refine y_val (r_assign (v := .int _ _) rfl rfl) rfl rfl ?_
  refine y_val (r_assign (v := .int _ _) rfl rfl) rfl rfl ?_
  refine y_end ?_
  intro W hW
  refine n_then (c_seq (c_reg ?_))
  refine aP ?_
  refine l_val (r_nilCheck rfl rfl) rfl rfl ?_
  refine l_val (r_fieldAddr 26 Tryz.underlying31 rfl tyC3.size rfl rfl rfl) rfl rfl ?_
  refine dC hW 1 tyC3 ?_
  refine l_val (r_addZ rfl rfl rfl (by omega)) rfl rfl ?_
  refine l_val (r_nilCheck rfl rfl) rfl rfl ?_
  refine l_val (r_fieldAddr 26 Tryz.underlying31 rfl tyC3.size rfl rfl rfl) rfl rfl ?_
  refine l_storeC hW 1 tyC3 (v := .int .i64 (q.a + 1)) rfl rfl rfl rfl rfl rfl (by rw [List.length_append, boC_len]; omega) rfl ?_
  intro W hW
  replace hW := (show Cl _ ([_, ⟨_, (boC q t ++ R).set 26 (.int .i64 (q.a + 1)), _⟩] ++ L) _ from hW)
  rw [boC_setAR] at hW
  refine l_end (n_then (c_seq (c_seq (c_reg ?_))))
  refine l_val (r_fieldAddr 0 Tryz.underlying206 rfl tyC3.size rfl rfl rfl) rfl rfl ?_
  refine dC hW 0 tyC3 ?_
  refine l_val (r_gtrN (n := 0) rfl rfl rfl rfl) rfl rfl ?_
  refine l_split ?_ ?_
  ·intro hc6
   replace hc6 := of_decide_eq_true hc6
   refine aB ?_
   refine l_valG (r_fieldAddr 1 Tryz.underlying206 rfl tyC3.size rfl rfl rfl) (by kernel_rfl) rfl ?_
   refine dG hW 0 tyC3 ?_
   refine l_valG (r_gtrN (n := 0) rfl rfl rfl rfl) (by kernel_rfl) rfl ?_
   refine l_split ?_ ?_
   ·intro hc7
    replace hc7 := of_decide_eq_true hc7
    refine kB ?_
    refine l_end (n_then ?_)
    refine c_true rfl ?_
    refine c_reg ?_
    refine aP ?_
    refine l_val (r_nilCheck rfl rfl) rfl rfl ?_
    refine l_val (r_fieldAddr 27 Tryz.underlying31 rfl tyC3.size rfl rfl rfl) rfl rfl ?_
    refine l_loadC hW 1 tyC3 (v := .int .i64 q.x) rfl rfl rfl rfl rfl rfl ?_
    refine l_val (r_addZ rfl rfl rfl (by omega)) rfl rfl ?_
    refine l_val (r_nilCheck rfl rfl) rfl rfl ?_
    refine l_val (r_fieldAddr 27 Tryz.underlying31 rfl tyC3.size rfl rfl rfl) rfl rfl ?_
    refine l_storeC hW 1 tyC3 (v := .int .i64 (q.x + 1)) rfl rfl rfl rfl rfl rfl (by rw [List.length_append, boC_len]; omega) rfl ?_
    intro W hW
    replace hW := (show Cl _ ([_, ⟨_, (boC { q with a := q.a + 1 } t ++ R).set 27 (.int .i64 (q.x + 1)), _⟩] ++ L) _ from hW)
    rw [boC_setXR] at hW
    refine l_end ?_
    have hax := after_p (b := q) (r := x.2.1) (w := x.2.2.1) ⟨by omega, by omega⟩
    obtain ⟨b1, hb1⟩ : ∃ b1, b1 = after q x.2.1 x.2.2.1 := ⟨_, rfl⟩
    have es : b1 = { q with a := q.a + 1, x := q.x + 1 } := hb1.trans hax
    have ev : b1.v = q.v := by rw [es]
    have en : b1.n = q.n := by rw [es]
    have em : b1.m = q.m := by rw [es]
    have ek : b1.k = q.k := by rw [es]
    have ex : b1.x = q.x + 1 := by rw [es]
    rw [← es] at hW
    refine n_then (c_seq ?_)
    refine c_regY hW [] [.q, .q, .q, .q, .q, .q, .q, .q, .q, .q, .q, .q, .q, .q, .q, .q, .q] [0, 1, 3, 7, 15, 31, 63, 127, 255, 511, 63, 1087, 3135, 7231, 16383, 32767, 65535] (by kernel_rfl) (by kernel_rfl) ?_
    refine y_val (r_move (v := .pointer _) rfl rfl) rfl rfl ?_
    refine y_val (r_nilCheck rfl rfl) rfl rfl ?_
    refine y_val (r_fieldAddr 9 Tryz.underlying31 rfl tyC3.size rfl rfl rfl) rfl rfl ?_
    refine y_loadC 1 tyC3 rfl rfl rfl rfl rfl rfl (by decide) ?_
    refine y_val (r_gtr rfl rfl rfl rfl) rfl rfl ?_
    refine y_split ?_ ?_
    ·intro hc8
     replace hc8 := of_decide_eq_true hc8
     refine yB ?_
     refine y_val (r_move (v := .pointer _) rfl rfl) (by kernel_rfl) rfl ?_
     refine y_val (r_nilCheck rfl rfl) (by kernel_rfl) rfl ?_
     refine y_val (r_fieldAddr 27 Tryz.underlying31 rfl tyC3.size rfl rfl rfl) (by kernel_rfl) rfl ?_
     refine y_loadC 1 tyC3 (by kernel_rfl) rfl rfl rfl rfl rfl (by decide) ?_
     refine y_val (r_move (v := .pointer _) rfl rfl) (by kernel_rfl) rfl ?_
     refine y_val (r_nilCheck rfl rfl) (by kernel_rfl) rfl ?_
     refine y_val (r_fieldAddr 9 Tryz.underlying31 rfl tyC3.size rfl rfl rfl) (by kernel_rfl) rfl ?_
     refine y_loadC 1 tyC3 (by kernel_rfl) rfl rfl rfl rfl rfl (by decide) ?_
     refine y_val (r_gtr rfl rfl rfl rfl) (by kernel_rfl) rfl ?_
     refine y_split ?_ ?_
     ·intro hc9
      replace hc9 := of_decide_eq_true hc9
      refine yK ?_
      refine y_val (r_assign (v := .bool _) rfl rfl) rfl rfl ?_
      refine y_end ?_
      intro W hW
      refine n_then (c_seq ?_)
      refine c_regY hW [] [.q, .q, .q, .q, .q, .q, .q, .q, .q, .q, .q, .q, .q, .q, .q, .q, .q] [0, 1, 3, 7, 0, 0, 48, 112, 0, 256, 1023, 0, 0, 6144, 14336, 32767, 65535] (by kernel_rfl) (by kernel_rfl) ?_
      refine y_val (r_move (v := .pointer _) rfl rfl) rfl rfl ?_
      refine y_val (r_nilCheck rfl rfl) rfl rfl ?_
      refine y_val (r_fieldAddr 10 Tryz.underlying31 rfl tyA29.size rfl rfl rfl) rfl rfl ?_
      refine y_loadP 1 tyA29 (by kernel_rfl) rfl rfl rfl rfl (by rw [List.length_append, boC_len]; omega) (boC_keyR _ _ _) (by decide) ?_
      refine yI ?_
      refine yI ?_
      refine y_val (r_quoN (m := q.a.toNat) (n := q.n.toNat + 1) rfl (congrArg (Value.int .i64) ha) (congrArg (Value.int .i64) hb) (by omega) (by omega)) rfl rfl ?_
      refine y_val (r_conv_i64_u64 Tryz.underlying3 Tryz.underlying22 rfl rfl) rfl rfl ?_
      refine yI ?_
      refine y_val (r_conv_i64_u64 (n := q.n.toNat + 1) Tryz.underlying3 Tryz.underlying22 rfl (congrArg (Value.int .i64) hb)) rfl rfl ?_
      refine y_call (g_Number _ _ _) en129 rfl rfl rfl rfl ?_
      refine yI ?_
      refine yI ?_
      refine y_val (r_remN (m := q.a.toNat) (n := q.n.toNat + 1) rfl (congrArg (Value.int .i64) ha) (congrArg (Value.int .i64) hb) (by omega)) rfl rfl ?_
      refine y_val (r_conv_i64_u64 Tryz.underlying3 Tryz.underlying22 rfl rfl) rfl rfl ?_
      refine y_val (r_neqN rfl rfl rfl rfl) rfl rfl ?_
      refine y_split ?_ ?_
      ·intro hc10
       replace hc10 := of_decide_eq_true hc10
       refine y_val (r_assign (v := .bool _) rfl rfl) rfl rfl ?_
       refine y_end ?_
       intro W hW
       refine n_then (c_seq (c_seq (c_reg ?_)))
       refine l_val (r_fieldAddr 0 Tryz.underlying206 rfl tyC3.size rfl rfl rfl) rfl rfl ?_
       refine dC hW 0 tyC3 ?_
       refine l_val (r_eqlN (n := 0) rfl rfl rfl rfl) rfl rfl ?_
       refine l_split ?_ ?_
       ·intro hc11
        replace hc11 := of_decide_eq_true hc11
        refine aB ?_
        refine lN ?_
        refine kB ?_
        refine aB ?_
        refine lN ?_
        refine kB ?_
        refine l_end (n_then ?_)
        refine c_true rfl ?_
        refine c_seq (c_reg ?_)
        refine bB ?_
        refine l_end (n_then (c_ret (r_then ?_)))
        refine ret_tmp (v := .bool _) rfl rfl ?_
        have e1 : stp o f o.length = x.2 := by rw [show o.length = x.1 by omega]; exact hst
        have hv : askW q x.2.1 x.2.2.1 x.2.2.2 = _ := ask_no (by rw [← hb1]; omega)
        exact ⟨_, [_], rfl, ⟨by rw [plays, e1]; exact congrArg Value.bool hv.symm, by rw [askd, e1, ← hb1]⟩, hW.drop 1⟩
       ·intro hc11
        replace hc11 := of_decide_eq_false hc11
        refine aB ?_
        refine l_valG (r_move (v := .bool _) rfl rfl) (by kernel_rfl) rfl ?_
        refine kB ?_
        refine aB ?_
        refine lN ?_
        refine kB ?_
        refine l_end (n_then ?_)
        refine c_true rfl ?_
        refine c_seq (c_reg ?_)
        refine bB ?_
        refine l_end (n_then (c_ret (r_then ?_)))
        refine ret_tmp (v := .bool _) rfl rfl ?_
        have e1 : stp o f o.length = x.2 := by rw [show o.length = x.1 by omega]; exact hst
        have hv : askW q x.2.1 x.2.2.1 x.2.2.2 = _ := ask_no (by rw [← hb1]; omega)
        exact ⟨_, [_], rfl, ⟨by rw [plays, e1]; exact congrArg Value.bool hv.symm, by rw [askd, e1, ← hb1]⟩, hW.drop 1⟩
      ·intro hc10
       replace hc10 := of_decide_eq_false hc10
       refine y_val (r_assign (v := .bool _) rfl rfl) rfl rfl ?_
       refine y_end ?_
       intro W hW
       refine n_then (c_seq (c_seq (c_reg ?_)))
       refine l_val (r_fieldAddr 0 Tryz.underlying206 rfl tyC3.size rfl rfl rfl) rfl rfl ?_
       refine dC hW 0 tyC3 ?_
       refine l_val (r_eqlN (n := 0) rfl rfl rfl rfl) rfl rfl ?_
       refine l_split ?_ ?_
       ·intro hc12
        replace hc12 := of_decide_eq_true hc12
        refine aB ?_
        refine lN ?_
        refine kB ?_
        refine aB ?_
        refine lN ?_
        refine kB ?_
        refine l_end (n_then ?_)
        refine c_true rfl ?_
        refine c_seq (c_reg ?_)
        refine bB ?_
        refine l_end (n_then (c_ret (r_then ?_)))
        refine ret_tmp (v := .bool _) rfl rfl ?_
        have e1 : stp o f o.length = x.2 := by rw [show o.length = x.1 by omega]; exact hst
        have hv : askW q x.2.1 x.2.2.1 x.2.2.2 = _ := ask_no (by rw [← hb1]; omega)
        exact ⟨_, [_], rfl, ⟨by rw [plays, e1]; exact congrArg Value.bool hv.symm, by rw [askd, e1, ← hb1]⟩, hW.drop 1⟩
       ·intro hc12
        replace hc12 := of_decide_eq_false hc12
        refine aB ?_
        refine l_valG (r_move (v := .bool _) rfl rfl) (by kernel_rfl) rfl ?_
        refine kB ?_
        refine aB ?_
        refine lN ?_
        refine kB ?_
        refine l_end (n_then ?_)
        refine c_true rfl ?_
        refine c_seq (c_reg ?_)
        refine bB ?_
        refine l_end (n_then (c_ret (r_then ?_)))
        refine ret_tmp (v := .bool _) rfl rfl ?_
        have e1 : stp o f o.length = x.2 := by rw [show o.length = x.1 by omega]; exact hst
        have hv : askW q x.2.1 x.2.2.1 x.2.2.2 = _ := ask_no (by rw [← hb1]; omega)
        exact ⟨_, [_], rfl, ⟨by rw [plays, e1]; exact congrArg Value.bool hv.symm, by rw [askd, e1, ← hb1]⟩, hW.drop 1⟩
     ·intro hc9
      replace hc9 := of_decide_eq_false hc9
      refine yK ?_
      refine y_val (r_assign (v := .bool _) rfl rfl) rfl rfl ?_
      refine y_end ?_
      intro W hW
      refine n_then (c_seq ?_)
      refine c_regY hW [] [.q, .q, .q, .q, .q, .q, .q, .q, .q, .q, .q, .q, .q, .q, .q, .q, .q] [0, 1, 3, 7, 0, 0, 48, 112, 0, 256, 1023, 0, 0, 6144, 14336, 32767, 65535] (by kernel_rfl) (by kernel_rfl) ?_
      refine y_val (r_move (v := .pointer _) rfl rfl) rfl rfl ?_
      refine y_val (r_nilCheck rfl rfl) rfl rfl ?_
      refine y_val (r_fieldAddr 10 Tryz.underlying31 rfl tyA29.size rfl rfl rfl) rfl rfl ?_
      refine y_loadP 1 tyA29 (by kernel_rfl) rfl rfl rfl rfl (by rw [List.length_append, boC_len]; omega) (boC_keyR _ _ _) (by decide) ?_
      refine yI ?_
      refine yI ?_
      refine y_val (r_quoN (m := q.a.toNat) (n := q.n.toNat + 1) rfl (congrArg (Value.int .i64) ha) (congrArg (Value.int .i64) hb) (by omega) (by omega)) rfl rfl ?_
      refine y_val (r_conv_i64_u64 Tryz.underlying3 Tryz.underlying22 rfl rfl) rfl rfl ?_
      refine yI ?_
      refine y_val (r_conv_i64_u64 (n := q.n.toNat + 1) Tryz.underlying3 Tryz.underlying22 rfl (congrArg (Value.int .i64) hb)) rfl rfl ?_
      refine y_call (g_Number _ _ _) en129 rfl rfl rfl rfl ?_
      refine yI ?_
      refine yI ?_
      refine y_val (r_remN (m := q.a.toNat) (n := q.n.toNat + 1) rfl (congrArg (Value.int .i64) ha) (congrArg (Value.int .i64) hb) (by omega)) rfl rfl ?_
      refine y_val (r_conv_i64_u64 Tryz.underlying3 Tryz.underlying22 rfl rfl) rfl rfl ?_
      refine y_val (r_neqN rfl rfl rfl rfl) rfl rfl ?_
      refine y_split ?_ ?_
      ·intro hc13
       replace hc13 := of_decide_eq_true hc13
       refine y_val (r_assign (v := .bool _) rfl rfl) rfl rfl ?_
       refine y_end ?_
       intro W hW
       refine n_then (c_seq (c_seq (c_reg ?_)))
       refine l_val (r_fieldAddr 0 Tryz.underlying206 rfl tyC3.size rfl rfl rfl) rfl rfl ?_
       refine dC hW 0 tyC3 ?_
       refine l_val (r_eqlN (n := 0) rfl rfl rfl rfl) rfl rfl ?_
       refine l_split ?_ ?_
       ·intro hc14
        replace hc14 := of_decide_eq_true hc14
        refine aB ?_
        refine lN ?_
        refine kB ?_
        refine aB ?_
        refine lN ?_
        refine kB ?_
        refine l_end (n_then ?_)
        refine c_true rfl ?_
        refine c_seq (c_reg ?_)
        refine bB ?_
        refine l_end (n_then (c_ret (r_then ?_)))
        refine ret_tmp (v := .bool _) rfl rfl ?_
        have e1 : stp o f o.length = x.2 := by rw [show o.length = x.1 by omega]; exact hst
        have hv : askW q x.2.1 x.2.2.1 x.2.2.2 = _ := ask_no (by rw [← hb1]; omega)
        exact ⟨_, [_], rfl, ⟨by rw [plays, e1]; exact congrArg Value.bool hv.symm, by rw [askd, e1, ← hb1]⟩, hW.drop 1⟩
       ·intro hc14
        replace hc14 := of_decide_eq_false hc14
        refine aB ?_
        refine l_valG (r_move (v := .bool _) rfl rfl) (by kernel_rfl) rfl ?_
        refine kB ?_
        refine aB ?_
        refine l_valG (r_move (v := .bool _) rfl rfl) (by kernel_rfl) rfl ?_
        refine kB ?_
        refine l_end (n_then ?_)
        refine c_true rfl ?_
        refine c_seq (c_reg ?_)
        refine bB ?_
        refine l_end (n_then (c_ret (r_then ?_)))
        refine ret_tmp (v := .bool _) rfl rfl ?_
        have e1 : stp o f o.length = x.2 := by rw [show o.length = x.1 by omega]; exact hst
        have hv : askW q x.2.1 x.2.2.1 x.2.2.2 = _ := ask_no (.inr (.inr (decide_eq_true (by rw [← ek]; exact hc13))))
        exact ⟨_, [_], rfl, ⟨by rw [plays, e1]; exact congrArg Value.bool hv.symm, by rw [askd, e1, ← hb1]⟩, hW.drop 1⟩
      ·intro hc13
       replace hc13 := of_decide_eq_false hc13
       refine y_val (r_assign (v := .bool _) rfl rfl) rfl rfl ?_
       refine y_end ?_
       intro W hW
       refine n_then (c_seq (c_seq (c_reg ?_)))
       refine l_val (r_fieldAddr 0 Tryz.underlying206 rfl tyC3.size rfl rfl rfl) rfl rfl ?_
       refine dC hW 0 tyC3 ?_
       refine l_val (r_eqlN (n := 0) rfl rfl rfl rfl) rfl rfl ?_
       refine l_split ?_ ?_
       ·intro hc15
        replace hc15 := of_decide_eq_true hc15
        refine aB ?_
        refine lN ?_
        refine kB ?_
        refine aB ?_
        refine lN ?_
        refine kB ?_
        refine l_end (n_then ?_)
        refine c_true rfl ?_
        refine c_seq (c_reg ?_)
        refine bB ?_
        refine l_end (n_then (c_ret (r_then ?_)))
        refine ret_tmp (v := .bool _) rfl rfl ?_
        have e1 : stp o f o.length = x.2 := by rw [show o.length = x.1 by omega]; exact hst
        have hv : askW q x.2.1 x.2.2.1 x.2.2.2 = _ := ask_no (by rw [← hb1]; omega)
        exact ⟨_, [_], rfl, ⟨by rw [plays, e1]; exact congrArg Value.bool hv.symm, by rw [askd, e1, ← hb1]⟩, hW.drop 1⟩
       ·intro hc15
        replace hc15 := of_decide_eq_false hc15
        refine aB ?_
        refine l_valG (r_move (v := .bool _) rfl rfl) (by kernel_rfl) rfl ?_
        refine kB ?_
        refine aB ?_
        refine l_valG (r_move (v := .bool _) rfl rfl) (by kernel_rfl) rfl ?_
        refine kB ?_
        refine l_end (n_then ?_)
        refine c_false rfl ?_
        refine c_skip (n_then (c_seq ?_))
        refine c_regY hW [] [.q, .q, .q, .q, .q, .q, .q, .q, .q, .q, .q] [0, 1, 3, 7, 15, 31, 63, 15, 255, 511, 1023] (by kernel_rfl) (by kernel_rfl) ?_
        refine y_val (r_fieldAddr 1 Tryz.underlying206 rfl tyC3.size rfl rfl rfl) rfl rfl ?_
        refine y_loadC 0 tyC3 rfl rfl rfl rfl rfl rfl (by decide) ?_
        refine y_val (r_eqlN (n := 0) rfl rfl rfl rfl) rfl rfl ?_
        refine y_split ?_ ?_
        ·intro hc16
         replace hc16 := of_decide_eq_true hc16
         refine yB ?_
         refine yN ?_
         refine yN ?_
         refine yN ?_
         refine yN ?_
         refine yN ?_
         refine yK ?_
         refine y_val (r_assign (v := .bool _) rfl rfl) rfl rfl ?_
         refine y_end ?_
         intro W hW
         refine n_then (c_ret ?_)
         refine ret_tmp (v := .bool _) rfl rfl ?_
         have e1 : stp o f o.length = x.2 := by rw [show o.length = x.1 by omega]; exact hst
         have hneg : ¬ (x.2.1 = 0 ∨ (0 < q.v ∧ q.v < (after q x.2.1 x.2.2.1).x) ∨ noiseB q = true) := by
          rw [← hb1, show noiseB q = false from decide_eq_false (by rw [← ek]; exact hc13)]
          rintro (h | ⟨h1, h2⟩ | h)
          ·omega
          ·omega
          ·cases h
         have hv : askW q x.2.1 x.2.2.1 x.2.2.2 = _ := ask_y0 hneg (by omega)
         exact ⟨_, [_], rfl, ⟨by rw [plays, e1]; exact congrArg Value.bool hv.symm, by rw [askd, e1, ← hb1]⟩, hW.drop 1⟩
        ·intro hc16
         replace hc16 := of_decide_eq_false hc16
         refine yB ?_
         refine y_val (r_move (v := .pointer _) rfl rfl) (by kernel_rfl) rfl ?_
         refine y_val (r_nilCheck rfl rfl) (by kernel_rfl) rfl ?_
         refine y_loadP 1 tyA31 (by kernel_rfl) rfl rfl rfl rfl (by rw [List.length_append, boC_len]; omega) (boC_boxR _ _ _) (by decide) ?_
         refine y_loadA 0 tyA206 (by kernel_rfl) rfl rfl rfl rfl (by first | rfl | exact kc_len _ | exact kcf_len _ | exact boC_len _ _ | (simp; done)) (by decide) ?_
         refine y_call (g_plays b1 t x.2.1 x.2.2.1 x.2.2.2 (by omega) (by omega) (by omega) (by omega)) en130 (by kernel_rfl) rfl rfl rfl ?_
         refine yK ?_
         refine y_val (r_assign (v := .bool _) rfl rfl) rfl rfl ?_
         refine y_end ?_
         intro W hW
         refine n_then (c_ret ?_)
         refine ret_tmp (v := .bool _) rfl rfl ?_
         have e1 : stp o f o.length = x.2 := by rw [show o.length = x.1 by omega]; exact hst
         have hneg : ¬ (x.2.1 = 0 ∨ (0 < q.v ∧ q.v < (after q x.2.1 x.2.2.1).x) ∨ noiseB q = true) := by
          rw [← hb1, show noiseB q = false from decide_eq_false (by rw [← ek]; exact hc13)]
          rintro (h | ⟨h1, h2⟩ | h)
          ·omega
          ·omega
          ·cases h
         have hv : askW q x.2.1 x.2.2.1 x.2.2.2 = _ := (ask_w hneg (by omega)).trans (play_congr em ek).symm
         exact ⟨_, [_], rfl, ⟨by rw [plays, e1]; exact congrArg Value.bool hv.symm, by rw [askd, e1, ← hb1]⟩, hW.drop 1⟩
    ·intro hc8
     replace hc8 := of_decide_eq_false hc8
     refine yB ?_
     refine yN ?_
     refine yN ?_
     refine yN ?_
     refine yN ?_
     refine yN ?_
     refine yN ?_
     refine yN ?_
     refine yN ?_
     refine yN ?_
     refine yK ?_
     refine y_val (r_assign (v := .bool _) rfl rfl) rfl rfl ?_
     refine y_end ?_
     intro W hW
     refine n_then (c_seq ?_)
     refine c_regY hW [] [.q, .q, .q, .q, .q, .q, .q, .q, .q, .q, .q, .q, .q, .q, .q, .q, .q] [0, 1, 3, 7, 0, 0, 48, 112, 0, 256, 1023, 0, 0, 6144, 14336, 32767, 65535] (by kernel_rfl) (by kernel_rfl) ?_
     refine y_val (r_move (v := .pointer _) rfl rfl) rfl rfl ?_
     refine y_val (r_nilCheck rfl rfl) rfl rfl ?_
     refine y_val (r_fieldAddr 10 Tryz.underlying31 rfl tyA29.size rfl rfl rfl) rfl rfl ?_
     refine y_loadP 1 tyA29 (by kernel_rfl) rfl rfl rfl rfl (by rw [List.length_append, boC_len]; omega) (boC_keyR _ _ _) (by decide) ?_
     refine yI ?_
     refine yI ?_
     refine y_val (r_quoN (m := q.a.toNat) (n := q.n.toNat + 1) rfl (congrArg (Value.int .i64) ha) (congrArg (Value.int .i64) hb) (by omega) (by omega)) rfl rfl ?_
     refine y_val (r_conv_i64_u64 Tryz.underlying3 Tryz.underlying22 rfl rfl) rfl rfl ?_
     refine yI ?_
     refine y_val (r_conv_i64_u64 (n := q.n.toNat + 1) Tryz.underlying3 Tryz.underlying22 rfl (congrArg (Value.int .i64) hb)) rfl rfl ?_
     refine y_call (g_Number _ _ _) en129 rfl rfl rfl rfl ?_
     refine yI ?_
     refine yI ?_
     refine y_val (r_remN (m := q.a.toNat) (n := q.n.toNat + 1) rfl (congrArg (Value.int .i64) ha) (congrArg (Value.int .i64) hb) (by omega)) rfl rfl ?_
     refine y_val (r_conv_i64_u64 Tryz.underlying3 Tryz.underlying22 rfl rfl) rfl rfl ?_
     refine y_val (r_neqN rfl rfl rfl rfl) rfl rfl ?_
     refine y_split ?_ ?_
     ·intro hc17
      replace hc17 := of_decide_eq_true hc17
      refine y_val (r_assign (v := .bool _) rfl rfl) rfl rfl ?_
      refine y_end ?_
      intro W hW
      refine n_then (c_seq (c_seq (c_reg ?_)))
      refine l_val (r_fieldAddr 0 Tryz.underlying206 rfl tyC3.size rfl rfl rfl) rfl rfl ?_
      refine dC hW 0 tyC3 ?_
      refine l_val (r_eqlN (n := 0) rfl rfl rfl rfl) rfl rfl ?_
      refine l_split ?_ ?_
      ·intro hc18
       replace hc18 := of_decide_eq_true hc18
       refine aB ?_
       refine lN ?_
       refine kB ?_
       refine aB ?_
       refine lN ?_
       refine kB ?_
       refine l_end (n_then ?_)
       refine c_true rfl ?_
       refine c_seq (c_reg ?_)
       refine bB ?_
       refine l_end (n_then (c_ret (r_then ?_)))
       refine ret_tmp (v := .bool _) rfl rfl ?_
       have e1 : stp o f o.length = x.2 := by rw [show o.length = x.1 by omega]; exact hst
       have hv : askW q x.2.1 x.2.2.1 x.2.2.2 = _ := ask_no (by rw [← hb1]; omega)
       exact ⟨_, [_], rfl, ⟨by rw [plays, e1]; exact congrArg Value.bool hv.symm, by rw [askd, e1, ← hb1]⟩, hW.drop 1⟩
      ·intro hc18
       replace hc18 := of_decide_eq_false hc18
       refine aB ?_
       refine l_valG (r_move (v := .bool _) rfl rfl) (by kernel_rfl) rfl ?_
       refine kB ?_
       refine aB ?_
       refine l_valG (r_move (v := .bool _) rfl rfl) (by kernel_rfl) rfl ?_
       refine kB ?_
       refine l_end (n_then ?_)
       refine c_true rfl ?_
       refine c_seq (c_reg ?_)
       refine bB ?_
       refine l_end (n_then (c_ret (r_then ?_)))
       refine ret_tmp (v := .bool _) rfl rfl ?_
       have e1 : stp o f o.length = x.2 := by rw [show o.length = x.1 by omega]; exact hst
       have hv : askW q x.2.1 x.2.2.1 x.2.2.2 = _ := ask_no (.inr (.inr (decide_eq_true (by rw [← ek]; exact hc17))))
       exact ⟨_, [_], rfl, ⟨by rw [plays, e1]; exact congrArg Value.bool hv.symm, by rw [askd, e1, ← hb1]⟩, hW.drop 1⟩
     ·intro hc17
      replace hc17 := of_decide_eq_false hc17
      refine y_val (r_assign (v := .bool _) rfl rfl) rfl rfl ?_
      refine y_end ?_
      intro W hW
      refine n_then (c_seq (c_seq (c_reg ?_)))
      refine l_val (r_fieldAddr 0 Tryz.underlying206 rfl tyC3.size rfl rfl rfl) rfl rfl ?_
      refine dC hW 0 tyC3 ?_
      refine l_val (r_eqlN (n := 0) rfl rfl rfl rfl) rfl rfl ?_
      refine l_split ?_ ?_
      ·intro hc19
       replace hc19 := of_decide_eq_true hc19
       refine aB ?_
       refine lN ?_
       refine kB ?_
       refine aB ?_
       refine lN ?_
       refine kB ?_
       refine l_end (n_then ?_)
       refine c_true rfl ?_
       refine c_seq (c_reg ?_)
       refine bB ?_
       refine l_end (n_then (c_ret (r_then ?_)))
       refine ret_tmp (v := .bool _) rfl rfl ?_
       have e1 : stp o f o.length = x.2 := by rw [show o.length = x.1 by omega]; exact hst
       have hv : askW q x.2.1 x.2.2.1 x.2.2.2 = _ := ask_no (by rw [← hb1]; omega)
       exact ⟨_, [_], rfl, ⟨by rw [plays, e1]; exact congrArg Value.bool hv.symm, by rw [askd, e1, ← hb1]⟩, hW.drop 1⟩
      ·intro hc19
       replace hc19 := of_decide_eq_false hc19
       refine aB ?_
       refine l_valG (r_move (v := .bool _) rfl rfl) (by kernel_rfl) rfl ?_
       refine kB ?_
       refine aB ?_
       refine l_valG (r_move (v := .bool _) rfl rfl) (by kernel_rfl) rfl ?_
       refine kB ?_
       refine l_end (n_then ?_)
       refine c_false rfl ?_
       refine c_skip (n_then (c_seq ?_))
       refine c_regY hW [] [.q, .q, .q, .q, .q, .q, .q, .q, .q, .q, .q] [0, 1, 3, 7, 15, 31, 63, 15, 255, 511, 1023] (by kernel_rfl) (by kernel_rfl) ?_
       refine y_val (r_fieldAddr 1 Tryz.underlying206 rfl tyC3.size rfl rfl rfl) rfl rfl ?_
       refine y_loadC 0 tyC3 rfl rfl rfl rfl rfl rfl (by decide) ?_
       refine y_val (r_eqlN (n := 0) rfl rfl rfl rfl) rfl rfl ?_
       refine y_split ?_ ?_
       ·intro hc20
        replace hc20 := of_decide_eq_true hc20
        refine yB ?_
        refine yN ?_
        refine yN ?_
        refine yN ?_
        refine yN ?_
        refine yN ?_
        refine yK ?_
        refine y_val (r_assign (v := .bool _) rfl rfl) rfl rfl ?_
        refine y_end ?_
        intro W hW
        refine n_then (c_ret ?_)
        refine ret_tmp (v := .bool _) rfl rfl ?_
        have e1 : stp o f o.length = x.2 := by rw [show o.length = x.1 by omega]; exact hst
        have hneg : ¬ (x.2.1 = 0 ∨ (0 < q.v ∧ q.v < (after q x.2.1 x.2.2.1).x) ∨ noiseB q = true) := by
         rw [← hb1, show noiseB q = false from decide_eq_false (by rw [← ek]; exact hc17)]
         rintro (h | ⟨h1, h2⟩ | h)
         ·omega
         ·omega
         ·cases h
        have hv : askW q x.2.1 x.2.2.1 x.2.2.2 = _ := ask_y0 hneg (by omega)
        exact ⟨_, [_], rfl, ⟨by rw [plays, e1]; exact congrArg Value.bool hv.symm, by rw [askd, e1, ← hb1]⟩, hW.drop 1⟩
       ·intro hc20
        replace hc20 := of_decide_eq_false hc20
        refine yB ?_
        refine y_val (r_move (v := .pointer _) rfl rfl) (by kernel_rfl) rfl ?_
        refine y_val (r_nilCheck rfl rfl) (by kernel_rfl) rfl ?_
        refine y_loadP 1 tyA31 (by kernel_rfl) rfl rfl rfl rfl (by rw [List.length_append, boC_len]; omega) (boC_boxR _ _ _) (by decide) ?_
        refine y_loadA 0 tyA206 (by kernel_rfl) rfl rfl rfl rfl (by first | rfl | exact kc_len _ | exact kcf_len _ | exact boC_len _ _ | (simp; done)) (by decide) ?_
        refine y_call (g_plays b1 t x.2.1 x.2.2.1 x.2.2.2 (by omega) (by omega) (by omega) (by omega)) en130 (by kernel_rfl) rfl rfl rfl ?_
        refine yK ?_
        refine y_val (r_assign (v := .bool _) rfl rfl) rfl rfl ?_
        refine y_end ?_
        intro W hW
        refine n_then (c_ret ?_)
        refine ret_tmp (v := .bool _) rfl rfl ?_
        have e1 : stp o f o.length = x.2 := by rw [show o.length = x.1 by omega]; exact hst
        have hneg : ¬ (x.2.1 = 0 ∨ (0 < q.v ∧ q.v < (after q x.2.1 x.2.2.1).x) ∨ noiseB q = true) := by
         rw [← hb1, show noiseB q = false from decide_eq_false (by rw [← ek]; exact hc17)]
         rintro (h | ⟨h1, h2⟩ | h)
         ·omega
         ·omega
         ·cases h
        have hv : askW q x.2.1 x.2.2.1 x.2.2.2 = _ := (ask_w hneg (by omega)).trans (play_congr em ek).symm
        exact ⟨_, [_], rfl, ⟨by rw [plays, e1]; exact congrArg Value.bool hv.symm, by rw [askd, e1, ← hb1]⟩, hW.drop 1⟩
   ·intro hc7
    replace hc7 := of_decide_eq_false hc7
    refine kB ?_
    refine l_end ?_
    have hax := after_n (b := q) (r := x.2.1) (w := x.2.2.1) (by omega)
    obtain ⟨b1, hb1⟩ : ∃ b1, b1 = after q x.2.1 x.2.2.1 := ⟨_, rfl⟩
    have es : b1 = { q with a := q.a + 1 } := hb1.trans hax
    have ev : b1.v = q.v := by rw [es]
    have en : b1.n = q.n := by rw [es]
    have em : b1.m = q.m := by rw [es]
    have ek : b1.k = q.k := by rw [es]
    have ex : b1.x = q.x := by rw [es]
    rw [← es] at hW
    refine n_then ?_
    refine c_false rfl ?_
    refine c_skip (n_then (c_seq ?_))
    refine c_regY hW [] [.q, .q, .q, .q, .q, .q, .q, .q, .q, .q, .q, .q, .q, .q, .q, .q, .q] [0, 1, 3, 7, 15, 31, 63, 127, 255, 511, 63, 1087, 3135, 7231, 16383, 32767, 65535] (by kernel_rfl) (by kernel_rfl) ?_
    refine y_val (r_move (v := .pointer _) rfl rfl) rfl rfl ?_
    refine y_val (r_nilCheck rfl rfl) rfl rfl ?_
    refine y_val (r_fieldAddr 9 Tryz.underlying31 rfl tyC3.size rfl rfl rfl) rfl rfl ?_
    refine y_loadC 1 tyC3 rfl rfl rfl rfl rfl rfl (by decide) ?_
    refine y_val (r_gtr rfl rfl rfl rfl) rfl rfl ?_
    refine y_split ?_ ?_
    ·intro hc21
     replace hc21 := of_decide_eq_true hc21
     refine yB ?_
     refine y_val (r_move (v := .pointer _) rfl rfl) (by kernel_rfl) rfl ?_
     refine y_val (r_nilCheck rfl rfl) (by kernel_rfl) rfl ?_
     refine y_val (r_fieldAddr 27 Tryz.underlying31 rfl tyC3.size rfl rfl rfl) (by kernel_rfl) rfl ?_
     refine y_loadC 1 tyC3 (by kernel_rfl) rfl rfl rfl rfl rfl (by decide) ?_
     refine y_val (r_move (v := .pointer _) rfl rfl) (by kernel_rfl) rfl ?_
     refine y_val (r_nilCheck rfl rfl) (by kernel_rfl) rfl ?_
     refine y_val (r_fieldAddr 9 Tryz.underlying31 rfl tyC3.size rfl rfl rfl) (by kernel_rfl) rfl ?_
     refine y_loadC 1 tyC3 (by kernel_rfl) rfl rfl rfl rfl rfl (by decide) ?_
     refine y_val (r_gtr rfl rfl rfl rfl) (by kernel_rfl) rfl ?_
     refine y_split ?_ ?_
     ·intro hc22
      replace hc22 := of_decide_eq_true hc22
      refine yK ?_
      refine y_val (r_assign (v := .bool _) rfl rfl) rfl rfl ?_
      refine y_end ?_
      intro W hW
      refine n_then (c_seq ?_)
      refine c_regY hW [] [.q, .q, .q, .q, .q, .q, .q, .q, .q, .q, .q, .q, .q, .q, .q, .q, .q] [0, 1, 3, 7, 0, 0, 48, 112, 0, 256, 1023, 0, 0, 6144, 14336, 32767, 65535] (by kernel_rfl) (by kernel_rfl) ?_
      refine y_val (r_move (v := .pointer _) rfl rfl) rfl rfl ?_
      refine y_val (r_nilCheck rfl rfl) rfl rfl ?_
      refine y_val (r_fieldAddr 10 Tryz.underlying31 rfl tyA29.size rfl rfl rfl) rfl rfl ?_
      refine y_loadP 1 tyA29 (by kernel_rfl) rfl rfl rfl rfl (by rw [List.length_append, boC_len]; omega) (boC_keyR _ _ _) (by decide) ?_
      refine yI ?_
      refine yI ?_
      refine y_val (r_quoN (m := q.a.toNat) (n := q.n.toNat + 1) rfl (congrArg (Value.int .i64) ha) (congrArg (Value.int .i64) hb) (by omega) (by omega)) rfl rfl ?_
      refine y_val (r_conv_i64_u64 Tryz.underlying3 Tryz.underlying22 rfl rfl) rfl rfl ?_
      refine yI ?_
      refine y_val (r_conv_i64_u64 (n := q.n.toNat + 1) Tryz.underlying3 Tryz.underlying22 rfl (congrArg (Value.int .i64) hb)) rfl rfl ?_
      refine y_call (g_Number _ _ _) en129 rfl rfl rfl rfl ?_
      refine yI ?_
      refine yI ?_
      refine y_val (r_remN (m := q.a.toNat) (n := q.n.toNat + 1) rfl (congrArg (Value.int .i64) ha) (congrArg (Value.int .i64) hb) (by omega)) rfl rfl ?_
      refine y_val (r_conv_i64_u64 Tryz.underlying3 Tryz.underlying22 rfl rfl) rfl rfl ?_
      refine y_val (r_neqN rfl rfl rfl rfl) rfl rfl ?_
      refine y_split ?_ ?_
      ·intro hc23
       replace hc23 := of_decide_eq_true hc23
       refine y_val (r_assign (v := .bool _) rfl rfl) rfl rfl ?_
       refine y_end ?_
       intro W hW
       refine n_then (c_seq (c_seq (c_reg ?_)))
       refine l_val (r_fieldAddr 0 Tryz.underlying206 rfl tyC3.size rfl rfl rfl) rfl rfl ?_
       refine dC hW 0 tyC3 ?_
       refine l_val (r_eqlN (n := 0) rfl rfl rfl rfl) rfl rfl ?_
       refine l_split ?_ ?_
       ·intro hc24
        replace hc24 := of_decide_eq_true hc24
        refine aB ?_
        refine lN ?_
        refine kB ?_
        refine aB ?_
        refine lN ?_
        refine kB ?_
        refine l_end (n_then ?_)
        refine c_true rfl ?_
        refine c_seq (c_reg ?_)
        refine bB ?_
        refine l_end (n_then (c_ret (r_then ?_)))
        refine ret_tmp (v := .bool _) rfl rfl ?_
        have e1 : stp o f o.length = x.2 := by rw [show o.length = x.1 by omega]; exact hst
        have hv : askW q x.2.1 x.2.2.1 x.2.2.2 = _ := ask_no (by rw [← hb1]; omega)
        exact ⟨_, [_], rfl, ⟨by rw [plays, e1]; exact congrArg Value.bool hv.symm, by rw [askd, e1, ← hb1]⟩, hW.drop 1⟩
       ·intro hc24
        replace hc24 := of_decide_eq_false hc24
        refine aB ?_
        refine l_valG (r_move (v := .bool _) rfl rfl) (by kernel_rfl) rfl ?_
        refine kB ?_
        refine aB ?_
        refine lN ?_
        refine kB ?_
        refine l_end (n_then ?_)
        refine c_true rfl ?_
        refine c_seq (c_reg ?_)
        refine bB ?_
        refine l_end (n_then (c_ret (r_then ?_)))
        refine ret_tmp (v := .bool _) rfl rfl ?_
        have e1 : stp o f o.length = x.2 := by rw [show o.length = x.1 by omega]; exact hst
        have hv : askW q x.2.1 x.2.2.1 x.2.2.2 = _ := ask_no (by rw [← hb1]; omega)
        exact ⟨_, [_], rfl, ⟨by rw [plays, e1]; exact congrArg Value.bool hv.symm, by rw [askd, e1, ← hb1]⟩, hW.drop 1⟩
      ·intro hc23
       replace hc23 := of_decide_eq_false hc23
       refine y_val (r_assign (v := .bool _) rfl rfl) rfl rfl ?_
       refine y_end ?_
       intro W hW
       refine n_then (c_seq (c_seq (c_reg ?_)))
       refine l_val (r_fieldAddr 0 Tryz.underlying206 rfl tyC3.size rfl rfl rfl) rfl rfl ?_
       refine dC hW 0 tyC3 ?_
       refine l_val (r_eqlN (n := 0) rfl rfl rfl rfl) rfl rfl ?_
       refine l_split ?_ ?_
       ·intro hc25
        replace hc25 := of_decide_eq_true hc25
        refine aB ?_
        refine lN ?_
        refine kB ?_
        refine aB ?_
        refine lN ?_
        refine kB ?_
        refine l_end (n_then ?_)
        refine c_true rfl ?_
        refine c_seq (c_reg ?_)
        refine bB ?_
        refine l_end (n_then (c_ret (r_then ?_)))
        refine ret_tmp (v := .bool _) rfl rfl ?_
        have e1 : stp o f o.length = x.2 := by rw [show o.length = x.1 by omega]; exact hst
        have hv : askW q x.2.1 x.2.2.1 x.2.2.2 = _ := ask_no (by rw [← hb1]; omega)
        exact ⟨_, [_], rfl, ⟨by rw [plays, e1]; exact congrArg Value.bool hv.symm, by rw [askd, e1, ← hb1]⟩, hW.drop 1⟩
       ·intro hc25
        replace hc25 := of_decide_eq_false hc25
        refine aB ?_
        refine l_valG (r_move (v := .bool _) rfl rfl) (by kernel_rfl) rfl ?_
        refine kB ?_
        refine aB ?_
        refine lN ?_
        refine kB ?_
        refine l_end (n_then ?_)
        refine c_true rfl ?_
        refine c_seq (c_reg ?_)
        refine bB ?_
        refine l_end (n_then (c_ret (r_then ?_)))
        refine ret_tmp (v := .bool _) rfl rfl ?_
        have e1 : stp o f o.length = x.2 := by rw [show o.length = x.1 by omega]; exact hst
        have hv : askW q x.2.1 x.2.2.1 x.2.2.2 = _ := ask_no (by rw [← hb1]; omega)
        exact ⟨_, [_], rfl, ⟨by rw [plays, e1]; exact congrArg Value.bool hv.symm, by rw [askd, e1, ← hb1]⟩, hW.drop 1⟩
     ·intro hc22
      replace hc22 := of_decide_eq_false hc22
      refine yK ?_
      refine y_val (r_assign (v := .bool _) rfl rfl) rfl rfl ?_
      refine y_end ?_
      intro W hW
      refine n_then (c_seq ?_)
      refine c_regY hW [] [.q, .q, .q, .q, .q, .q, .q, .q, .q, .q, .q, .q, .q, .q, .q, .q, .q] [0, 1, 3, 7, 0, 0, 48, 112, 0, 256, 1023, 0, 0, 6144, 14336, 32767, 65535] (by kernel_rfl) (by kernel_rfl) ?_
      refine y_val (r_move (v := .pointer _) rfl rfl) rfl rfl ?_
      refine y_val (r_nilCheck rfl rfl) rfl rfl ?_
      refine y_val (r_fieldAddr 10 Tryz.underlying31 rfl tyA29.size rfl rfl rfl) rfl rfl ?_
      refine y_loadP 1 tyA29 (by kernel_rfl) rfl rfl rfl rfl (by rw [List.length_append, boC_len]; omega) (boC_keyR _ _ _) (by decide) ?_
      refine yI ?_
      refine yI ?_
      refine y_val (r_quoN (m := q.a.toNat) (n := q.n.toNat + 1) rfl (congrArg (Value.int .i64) ha) (congrArg (Value.int .i64) hb) (by omega) (by omega)) rfl rfl ?_
      refine y_val (r_conv_i64_u64 Tryz.underlying3 Tryz.underlying22 rfl rfl) rfl rfl ?_
      refine yI ?_
      refine y_val (r_conv_i64_u64 (n := q.n.toNat + 1) Tryz.underlying3 Tryz.underlying22 rfl (congrArg (Value.int .i64) hb)) rfl rfl ?_
      refine y_call (g_Number _ _ _) en129 rfl rfl rfl rfl ?_
      refine yI ?_
      refine yI ?_
      refine y_val (r_remN (m := q.a.toNat) (n := q.n.toNat + 1) rfl (congrArg (Value.int .i64) ha) (congrArg (Value.int .i64) hb) (by omega)) rfl rfl ?_
      refine y_val (r_conv_i64_u64 Tryz.underlying3 Tryz.underlying22 rfl rfl) rfl rfl ?_
      refine y_val (r_neqN rfl rfl rfl rfl) rfl rfl ?_
      refine y_split ?_ ?_
      ·intro hc26
       replace hc26 := of_decide_eq_true hc26
       refine y_val (r_assign (v := .bool _) rfl rfl) rfl rfl ?_
       refine y_end ?_
       intro W hW
       refine n_then (c_seq (c_seq (c_reg ?_)))
       refine l_val (r_fieldAddr 0 Tryz.underlying206 rfl tyC3.size rfl rfl rfl) rfl rfl ?_
       refine dC hW 0 tyC3 ?_
       refine l_val (r_eqlN (n := 0) rfl rfl rfl rfl) rfl rfl ?_
       refine l_split ?_ ?_
       ·intro hc27
        replace hc27 := of_decide_eq_true hc27
        refine aB ?_
        refine lN ?_
        refine kB ?_
        refine aB ?_
        refine lN ?_
        refine kB ?_
        refine l_end (n_then ?_)
        refine c_true rfl ?_
        refine c_seq (c_reg ?_)
        refine bB ?_
        refine l_end (n_then (c_ret (r_then ?_)))
        refine ret_tmp (v := .bool _) rfl rfl ?_
        have e1 : stp o f o.length = x.2 := by rw [show o.length = x.1 by omega]; exact hst
        have hv : askW q x.2.1 x.2.2.1 x.2.2.2 = _ := ask_no (by rw [← hb1]; omega)
        exact ⟨_, [_], rfl, ⟨by rw [plays, e1]; exact congrArg Value.bool hv.symm, by rw [askd, e1, ← hb1]⟩, hW.drop 1⟩
       ·intro hc27
        replace hc27 := of_decide_eq_false hc27
        refine aB ?_
        refine l_valG (r_move (v := .bool _) rfl rfl) (by kernel_rfl) rfl ?_
        refine kB ?_
        refine aB ?_
        refine l_valG (r_move (v := .bool _) rfl rfl) (by kernel_rfl) rfl ?_
        refine kB ?_
        refine l_end (n_then ?_)
        refine c_true rfl ?_
        refine c_seq (c_reg ?_)
        refine bB ?_
        refine l_end (n_then (c_ret (r_then ?_)))
        refine ret_tmp (v := .bool _) rfl rfl ?_
        have e1 : stp o f o.length = x.2 := by rw [show o.length = x.1 by omega]; exact hst
        have hv : askW q x.2.1 x.2.2.1 x.2.2.2 = _ := ask_no (.inr (.inr (decide_eq_true (by rw [← ek]; exact hc26))))
        exact ⟨_, [_], rfl, ⟨by rw [plays, e1]; exact congrArg Value.bool hv.symm, by rw [askd, e1, ← hb1]⟩, hW.drop 1⟩
      ·intro hc26
       replace hc26 := of_decide_eq_false hc26
       refine y_val (r_assign (v := .bool _) rfl rfl) rfl rfl ?_
       refine y_end ?_
       intro W hW
       refine n_then (c_seq (c_seq (c_reg ?_)))
       refine l_val (r_fieldAddr 0 Tryz.underlying206 rfl tyC3.size rfl rfl rfl) rfl rfl ?_
       refine dC hW 0 tyC3 ?_
       refine l_val (r_eqlN (n := 0) rfl rfl rfl rfl) rfl rfl ?_
       refine l_split ?_ ?_
       ·intro hc28
        replace hc28 := of_decide_eq_true hc28
        refine aB ?_
        refine lN ?_
        refine kB ?_
        refine aB ?_
        refine lN ?_
        refine kB ?_
        refine l_end (n_then ?_)
        refine c_true rfl ?_
        refine c_seq (c_reg ?_)
        refine bB ?_
        refine l_end (n_then (c_ret (r_then ?_)))
        refine ret_tmp (v := .bool _) rfl rfl ?_
        have e1 : stp o f o.length = x.2 := by rw [show o.length = x.1 by omega]; exact hst
        have hv : askW q x.2.1 x.2.2.1 x.2.2.2 = _ := ask_no (by rw [← hb1]; omega)
        exact ⟨_, [_], rfl, ⟨by rw [plays, e1]; exact congrArg Value.bool hv.symm, by rw [askd, e1, ← hb1]⟩, hW.drop 1⟩
       ·intro hc28
        replace hc28 := of_decide_eq_false hc28
        refine aB ?_
        refine l_valG (r_move (v := .bool _) rfl rfl) (by kernel_rfl) rfl ?_
        refine kB ?_
        refine aB ?_
        refine l_valG (r_move (v := .bool _) rfl rfl) (by kernel_rfl) rfl ?_
        refine kB ?_
        refine l_end (n_then ?_)
        refine c_false rfl ?_
        refine c_skip (n_then (c_seq ?_))
        refine c_regY hW [] [.q, .q, .q, .q, .q, .q, .q, .q, .q, .q, .q] [0, 1, 3, 7, 15, 31, 63, 15, 255, 511, 1023] (by kernel_rfl) (by kernel_rfl) ?_
        refine y_val (r_fieldAddr 1 Tryz.underlying206 rfl tyC3.size rfl rfl rfl) rfl rfl ?_
        refine y_loadC 0 tyC3 rfl rfl rfl rfl rfl rfl (by decide) ?_
        refine y_val (r_eqlN (n := 0) rfl rfl rfl rfl) rfl rfl ?_
        refine y_split ?_ ?_
        ·intro hc29
         replace hc29 := of_decide_eq_true hc29
         refine yB ?_
         refine yN ?_
         refine yN ?_
         refine yN ?_
         refine yN ?_
         refine yN ?_
         refine yK ?_
         refine y_val (r_assign (v := .bool _) rfl rfl) rfl rfl ?_
         refine y_end ?_
         intro W hW
         refine n_then (c_ret ?_)
         refine ret_tmp (v := .bool _) rfl rfl ?_
         have e1 : stp o f o.length = x.2 := by rw [show o.length = x.1 by omega]; exact hst
         have hneg : ¬ (x.2.1 = 0 ∨ (0 < q.v ∧ q.v < (after q x.2.1 x.2.2.1).x) ∨ noiseB q = true) := by
          rw [← hb1, show noiseB q = false from decide_eq_false (by rw [← ek]; exact hc26)]
          rintro (h | ⟨h1, h2⟩ | h)
          ·omega
          ·omega
          ·cases h
         have hv : askW q x.2.1 x.2.2.1 x.2.2.2 = _ := ask_y0 hneg (by omega)
         exact ⟨_, [_], rfl, ⟨by rw [plays, e1]; exact congrArg Value.bool hv.symm, by rw [askd, e1, ← hb1]⟩, hW.drop 1⟩
        ·intro hc29
         replace hc29 := of_decide_eq_false hc29
         refine yB ?_
         refine y_val (r_move (v := .pointer _) rfl rfl) (by kernel_rfl) rfl ?_
         refine y_val (r_nilCheck rfl rfl) (by kernel_rfl) rfl ?_
         refine y_loadP 1 tyA31 (by kernel_rfl) rfl rfl rfl rfl (by rw [List.length_append, boC_len]; omega) (boC_boxR _ _ _) (by decide) ?_
         refine y_loadA 0 tyA206 (by kernel_rfl) rfl rfl rfl rfl (by first | rfl | exact kc_len _ | exact kcf_len _ | exact boC_len _ _ | (simp; done)) (by decide) ?_
         refine y_call (g_plays b1 t x.2.1 x.2.2.1 x.2.2.2 (by omega) (by omega) (by omega) (by omega)) en130 (by kernel_rfl) rfl rfl rfl ?_
         refine yK ?_
         refine y_val (r_assign (v := .bool _) rfl rfl) rfl rfl ?_
         refine y_end ?_
         intro W hW
         refine n_then (c_ret ?_)
         refine ret_tmp (v := .bool _) rfl rfl ?_
         have e1 : stp o f o.length = x.2 := by rw [show o.length = x.1 by omega]; exact hst
         have hneg : ¬ (x.2.1 = 0 ∨ (0 < q.v ∧ q.v < (after q x.2.1 x.2.2.1).x) ∨ noiseB q = true) := by
          rw [← hb1, show noiseB q = false from decide_eq_false (by rw [← ek]; exact hc26)]
          rintro (h | ⟨h1, h2⟩ | h)
          ·omega
          ·omega
          ·cases h
         have hv : askW q x.2.1 x.2.2.1 x.2.2.2 = _ := (ask_w hneg (by omega)).trans (play_congr em ek).symm
         exact ⟨_, [_], rfl, ⟨by rw [plays, e1]; exact congrArg Value.bool hv.symm, by rw [askd, e1, ← hb1]⟩, hW.drop 1⟩
    ·intro hc21
     replace hc21 := of_decide_eq_false hc21
     refine yB ?_
     refine yN ?_
     refine yN ?_
     refine yN ?_
     refine yN ?_
     refine yN ?_
     refine yN ?_
     refine yN ?_
     refine yN ?_
     refine yN ?_
     refine yK ?_
     refine y_val (r_assign (v := .bool _) rfl rfl) rfl rfl ?_
     refine y_end ?_
     intro W hW
     refine n_then (c_seq ?_)
     refine c_regY hW [] [.q, .q, .q, .q, .q, .q, .q, .q, .q, .q, .q, .q, .q, .q, .q, .q, .q] [0, 1, 3, 7, 0, 0, 48, 112, 0, 256, 1023, 0, 0, 6144, 14336, 32767, 65535] (by kernel_rfl) (by kernel_rfl) ?_
     refine y_val (r_move (v := .pointer _) rfl rfl) rfl rfl ?_
     refine y_val (r_nilCheck rfl rfl) rfl rfl ?_
     refine y_val (r_fieldAddr 10 Tryz.underlying31 rfl tyA29.size rfl rfl rfl) rfl rfl ?_
     refine y_loadP 1 tyA29 (by kernel_rfl) rfl rfl rfl rfl (by rw [List.length_append, boC_len]; omega) (boC_keyR _ _ _) (by decide) ?_
     refine yI ?_
     refine yI ?_
     refine y_val (r_quoN (m := q.a.toNat) (n := q.n.toNat + 1) rfl (congrArg (Value.int .i64) ha) (congrArg (Value.int .i64) hb) (by omega) (by omega)) rfl rfl ?_
     refine y_val (r_conv_i64_u64 Tryz.underlying3 Tryz.underlying22 rfl rfl) rfl rfl ?_
     refine yI ?_
     refine y_val (r_conv_i64_u64 (n := q.n.toNat + 1) Tryz.underlying3 Tryz.underlying22 rfl (congrArg (Value.int .i64) hb)) rfl rfl ?_
     refine y_call (g_Number _ _ _) en129 rfl rfl rfl rfl ?_
     refine yI ?_
     refine yI ?_
     refine y_val (r_remN (m := q.a.toNat) (n := q.n.toNat + 1) rfl (congrArg (Value.int .i64) ha) (congrArg (Value.int .i64) hb) (by omega)) rfl rfl ?_
     refine y_val (r_conv_i64_u64 Tryz.underlying3 Tryz.underlying22 rfl rfl) rfl rfl ?_
     refine y_val (r_neqN rfl rfl rfl rfl) rfl rfl ?_
     refine y_split ?_ ?_
     ·intro hc30
      replace hc30 := of_decide_eq_true hc30
      refine y_val (r_assign (v := .bool _) rfl rfl) rfl rfl ?_
      refine y_end ?_
      intro W hW
      refine n_then (c_seq (c_seq (c_reg ?_)))
      refine l_val (r_fieldAddr 0 Tryz.underlying206 rfl tyC3.size rfl rfl rfl) rfl rfl ?_
      refine dC hW 0 tyC3 ?_
      refine l_val (r_eqlN (n := 0) rfl rfl rfl rfl) rfl rfl ?_
      refine l_split ?_ ?_
      ·intro hc31
       replace hc31 := of_decide_eq_true hc31
       refine aB ?_
       refine lN ?_
       refine kB ?_
       refine aB ?_
       refine lN ?_
       refine kB ?_
       refine l_end (n_then ?_)
       refine c_true rfl ?_
       refine c_seq (c_reg ?_)
       refine bB ?_
       refine l_end (n_then (c_ret (r_then ?_)))
       refine ret_tmp (v := .bool _) rfl rfl ?_
       have e1 : stp o f o.length = x.2 := by rw [show o.length = x.1 by omega]; exact hst
       have hv : askW q x.2.1 x.2.2.1 x.2.2.2 = _ := ask_no (by rw [← hb1]; omega)
       exact ⟨_, [_], rfl, ⟨by rw [plays, e1]; exact congrArg Value.bool hv.symm, by rw [askd, e1, ← hb1]⟩, hW.drop 1⟩
      ·intro hc31
       replace hc31 := of_decide_eq_false hc31
       refine aB ?_
       refine l_valG (r_move (v := .bool _) rfl rfl) (by kernel_rfl) rfl ?_
       refine kB ?_
       refine aB ?_
       refine l_valG (r_move (v := .bool _) rfl rfl) (by kernel_rfl) rfl ?_
       refine kB ?_
       refine l_end (n_then ?_)
       refine c_true rfl ?_
       refine c_seq (c_reg ?_)
       refine bB ?_
       refine l_end (n_then (c_ret (r_then ?_)))
       refine ret_tmp (v := .bool _) rfl rfl ?_
       have e1 : stp o f o.length = x.2 := by rw [show o.length = x.1 by omega]; exact hst
       have hv : askW q x.2.1 x.2.2.1 x.2.2.2 = _ := ask_no (.inr (.inr (decide_eq_true (by rw [← ek]; exact hc30))))
       exact ⟨_, [_], rfl, ⟨by rw [plays, e1]; exact congrArg Value.bool hv.symm, by rw [askd, e1, ← hb1]⟩, hW.drop 1⟩
     ·intro hc30
      replace hc30 := of_decide_eq_false hc30
      refine y_val (r_assign (v := .bool _) rfl rfl) rfl rfl ?_
      refine y_end ?_
      intro W hW
      refine n_then (c_seq (c_seq (c_reg ?_)))
      refine l_val (r_fieldAddr 0 Tryz.underlying206 rfl tyC3.size rfl rfl rfl) rfl rfl ?_
      refine dC hW 0 tyC3 ?_
      refine l_val (r_eqlN (n := 0) rfl rfl rfl rfl) rfl rfl ?_
      refine l_split ?_ ?_
      ·intro hc32
       replace hc32 := of_decide_eq_true hc32
       refine aB ?_
       refine lN ?_
       refine kB ?_
       refine aB ?_
       refine lN ?_
       refine kB ?_
       refine l_end (n_then ?_)
       refine c_true rfl ?_
       refine c_seq (c_reg ?_)
       refine bB ?_
       refine l_end (n_then (c_ret (r_then ?_)))
       refine ret_tmp (v := .bool _) rfl rfl ?_
       have e1 : stp o f o.length = x.2 := by rw [show o.length = x.1 by omega]; exact hst
       have hv : askW q x.2.1 x.2.2.1 x.2.2.2 = _ := ask_no (by rw [← hb1]; omega)
       exact ⟨_, [_], rfl, ⟨by rw [plays, e1]; exact congrArg Value.bool hv.symm, by rw [askd, e1, ← hb1]⟩, hW.drop 1⟩
      ·intro hc32
       replace hc32 := of_decide_eq_false hc32
       refine aB ?_
       refine l_valG (r_move (v := .bool _) rfl rfl) (by kernel_rfl) rfl ?_
       refine kB ?_
       refine aB ?_
       refine l_valG (r_move (v := .bool _) rfl rfl) (by kernel_rfl) rfl ?_
       refine kB ?_
       refine l_end (n_then ?_)
       refine c_false rfl ?_
       refine c_skip (n_then (c_seq ?_))
       refine c_regY hW [] [.q, .q, .q, .q, .q, .q, .q, .q, .q, .q, .q] [0, 1, 3, 7, 15, 31, 63, 15, 255, 511, 1023] (by kernel_rfl) (by kernel_rfl) ?_
       refine y_val (r_fieldAddr 1 Tryz.underlying206 rfl tyC3.size rfl rfl rfl) rfl rfl ?_
       refine y_loadC 0 tyC3 rfl rfl rfl rfl rfl rfl (by decide) ?_
       refine y_val (r_eqlN (n := 0) rfl rfl rfl rfl) rfl rfl ?_
       refine y_split ?_ ?_
       ·intro hc33
        replace hc33 := of_decide_eq_true hc33
        refine yB ?_
        refine yN ?_
        refine yN ?_
        refine yN ?_
        refine yN ?_
        refine yN ?_
        refine yK ?_
        refine y_val (r_assign (v := .bool _) rfl rfl) rfl rfl ?_
        refine y_end ?_
        intro W hW
        refine n_then (c_ret ?_)
        refine ret_tmp (v := .bool _) rfl rfl ?_
        have e1 : stp o f o.length = x.2 := by rw [show o.length = x.1 by omega]; exact hst
        have hneg : ¬ (x.2.1 = 0 ∨ (0 < q.v ∧ q.v < (after q x.2.1 x.2.2.1).x) ∨ noiseB q = true) := by
         rw [← hb1, show noiseB q = false from decide_eq_false (by rw [← ek]; exact hc30)]
         rintro (h | ⟨h1, h2⟩ | h)
         ·omega
         ·omega
         ·cases h
        have hv : askW q x.2.1 x.2.2.1 x.2.2.2 = _ := ask_y0 hneg (by omega)
        exact ⟨_, [_], rfl, ⟨by rw [plays, e1]; exact congrArg Value.bool hv.symm, by rw [askd, e1, ← hb1]⟩, hW.drop 1⟩
       ·intro hc33
        replace hc33 := of_decide_eq_false hc33
        refine yB ?_
        refine y_val (r_move (v := .pointer _) rfl rfl) (by kernel_rfl) rfl ?_
        refine y_val (r_nilCheck rfl rfl) (by kernel_rfl) rfl ?_
        refine y_loadP 1 tyA31 (by kernel_rfl) rfl rfl rfl rfl (by rw [List.length_append, boC_len]; omega) (boC_boxR _ _ _) (by decide) ?_
        refine y_loadA 0 tyA206 (by kernel_rfl) rfl rfl rfl rfl (by first | rfl | exact kc_len _ | exact kcf_len _ | exact boC_len _ _ | (simp; done)) (by decide) ?_
        refine y_call (g_plays b1 t x.2.1 x.2.2.1 x.2.2.2 (by omega) (by omega) (by omega) (by omega)) en130 (by kernel_rfl) rfl rfl rfl ?_
        refine yK ?_
        refine y_val (r_assign (v := .bool _) rfl rfl) rfl rfl ?_
        refine y_end ?_
        intro W hW
        refine n_then (c_ret ?_)
        refine ret_tmp (v := .bool _) rfl rfl ?_
        have e1 : stp o f o.length = x.2 := by rw [show o.length = x.1 by omega]; exact hst
        have hneg : ¬ (x.2.1 = 0 ∨ (0 < q.v ∧ q.v < (after q x.2.1 x.2.2.1).x) ∨ noiseB q = true) := by
         rw [← hb1, show noiseB q = false from decide_eq_false (by rw [← ek]; exact hc30)]
         rintro (h | ⟨h1, h2⟩ | h)
         ·omega
         ·omega
         ·cases h
        have hv : askW q x.2.1 x.2.2.1 x.2.2.2 = _ := (ask_w hneg (by omega)).trans (play_congr em ek).symm
        exact ⟨_, [_], rfl, ⟨by rw [plays, e1]; exact congrArg Value.bool hv.symm, by rw [askd, e1, ← hb1]⟩, hW.drop 1⟩
  ·intro hc6
   replace hc6 := of_decide_eq_false hc6
   refine aB ?_
   refine lN ?_
   refine lN ?_
   refine lN ?_
   refine kB ?_
   refine l_end ?_
   have hax := after_n (b := q) (r := x.2.1) (w := x.2.2.1) (by omega)
   obtain ⟨b1, hb1⟩ : ∃ b1, b1 = after q x.2.1 x.2.2.1 := ⟨_, rfl⟩
   have es : b1 = { q with a := q.a + 1 } := hb1.trans hax
   have ev : b1.v = q.v := by rw [es]
   have en : b1.n = q.n := by rw [es]
   have em : b1.m = q.m := by rw [es]
   have ek : b1.k = q.k := by rw [es]
   have ex : b1.x = q.x := by rw [es]
   rw [← es] at hW
   refine n_then ?_
   refine c_false rfl ?_
   refine c_skip (n_then (c_seq ?_))
   refine c_regY hW [] [.q, .q, .q, .q, .q, .q, .q, .q, .q, .q, .q, .q, .q, .q, .q, .q, .q] [0, 1, 3, 7, 15, 31, 63, 127, 255, 511, 63, 1087, 3135, 7231, 16383, 32767, 65535] (by kernel_rfl) (by kernel_rfl) ?_
   refine y_val (r_move (v := .pointer _) rfl rfl) rfl rfl ?_
   refine y_val (r_nilCheck rfl rfl) rfl rfl ?_
   refine y_val (r_fieldAddr 9 Tryz.underlying31 rfl tyC3.size rfl rfl rfl) rfl rfl ?_
   refine y_loadC 1 tyC3 rfl rfl rfl rfl rfl rfl (by decide) ?_
   refine y_val (r_gtr rfl rfl rfl rfl) rfl rfl ?_
   refine y_split ?_ ?_
   ·intro hc34
    replace hc34 := of_decide_eq_true hc34
    refine yB ?_
    refine y_val (r_move (v := .pointer _) rfl rfl) (by kernel_rfl) rfl ?_
    refine y_val (r_nilCheck rfl rfl) (by kernel_rfl) rfl ?_
    refine y_val (r_fieldAddr 27 Tryz.underlying31 rfl tyC3.size rfl rfl rfl) (by kernel_rfl) rfl ?_
    refine y_loadC 1 tyC3 (by kernel_rfl) rfl rfl rfl rfl rfl (by decide) ?_
    refine y_val (r_move (v := .pointer _) rfl rfl) (by kernel_rfl) rfl ?_
    refine y_val (r_nilCheck rfl rfl) (by kernel_rfl) rfl ?_
    refine y_val (r_fieldAddr 9 Tryz.underlying31 rfl tyC3.size rfl rfl rfl) (by kernel_rfl) rfl ?_
    refine y_loadC 1 tyC3 (by kernel_rfl) rfl rfl rfl rfl rfl (by decide) ?_
    refine y_val (r_gtr rfl rfl rfl rfl) (by kernel_rfl) rfl ?_
    refine y_split ?_ ?_
    ·intro hc35
     replace hc35 := of_decide_eq_true hc35
     refine yK ?_
     refine y_val (r_assign (v := .bool _) rfl rfl) rfl rfl ?_
     refine y_end ?_
     intro W hW
     refine n_then (c_seq ?_)
     refine c_regY hW [] [.q, .q, .q, .q, .q, .q, .q, .q, .q, .q, .q, .q, .q, .q, .q, .q, .q] [0, 1, 3, 7, 0, 0, 48, 112, 0, 256, 1023, 0, 0, 6144, 14336, 32767, 65535] (by kernel_rfl) (by kernel_rfl) ?_
     refine y_val (r_move (v := .pointer _) rfl rfl) rfl rfl ?_
     refine y_val (r_nilCheck rfl rfl) rfl rfl ?_
     refine y_val (r_fieldAddr 10 Tryz.underlying31 rfl tyA29.size rfl rfl rfl) rfl rfl ?_
     refine y_loadP 1 tyA29 (by kernel_rfl) rfl rfl rfl rfl (by rw [List.length_append, boC_len]; omega) (boC_keyR _ _ _) (by decide) ?_
     refine yI ?_
     refine yI ?_
     refine y_val (r_quoN (m := q.a.toNat) (n := q.n.toNat + 1) rfl (congrArg (Value.int .i64) ha) (congrArg (Value.int .i64) hb) (by omega) (by omega)) rfl rfl ?_
     refine y_val (r_conv_i64_u64 Tryz.underlying3 Tryz.underlying22 rfl rfl) rfl rfl ?_
     refine yI ?_
     refine y_val (r_conv_i64_u64 (n := q.n.toNat + 1) Tryz.underlying3 Tryz.underlying22 rfl (congrArg (Value.int .i64) hb)) rfl rfl ?_
     refine y_call (g_Number _ _ _) en129 rfl rfl rfl rfl ?_
     refine yI ?_
     refine yI ?_
     refine y_val (r_remN (m := q.a.toNat) (n := q.n.toNat + 1) rfl (congrArg (Value.int .i64) ha) (congrArg (Value.int .i64) hb) (by omega)) rfl rfl ?_
     refine y_val (r_conv_i64_u64 Tryz.underlying3 Tryz.underlying22 rfl rfl) rfl rfl ?_
     refine y_val (r_neqN rfl rfl rfl rfl) rfl rfl ?_
     refine y_split ?_ ?_
     ·intro hc36
      replace hc36 := of_decide_eq_true hc36
      refine y_val (r_assign (v := .bool _) rfl rfl) rfl rfl ?_
      refine y_end ?_
      intro W hW
      refine n_then (c_seq (c_seq (c_reg ?_)))
      refine l_val (r_fieldAddr 0 Tryz.underlying206 rfl tyC3.size rfl rfl rfl) rfl rfl ?_
      refine dC hW 0 tyC3 ?_
      refine l_val (r_eqlN (n := 0) rfl rfl rfl rfl) rfl rfl ?_
      refine l_split ?_ ?_
      ·intro hc37
       replace hc37 := of_decide_eq_true hc37
       refine aB ?_
       refine lN ?_
       refine kB ?_
       refine aB ?_
       refine lN ?_
       refine kB ?_
       refine l_end (n_then ?_)
       refine c_true rfl ?_
       refine c_seq (c_reg ?_)
       refine bB ?_
       refine l_end (n_then (c_ret (r_then ?_)))
       refine ret_tmp (v := .bool _) rfl rfl ?_
       have e1 : stp o f o.length = x.2 := by rw [show o.length = x.1 by omega]; exact hst
       have hv : askW q x.2.1 x.2.2.1 x.2.2.2 = _ := ask_no (by rw [← hb1]; omega)
       exact ⟨_, [_], rfl, ⟨by rw [plays, e1]; exact congrArg Value.bool hv.symm, by rw [askd, e1, ← hb1]⟩, hW.drop 1⟩
      ·intro hc37
       replace hc37 := of_decide_eq_false hc37
       refine aB ?_
       refine l_valG (r_move (v := .bool _) rfl rfl) (by kernel_rfl) rfl ?_
       refine kB ?_
       refine aB ?_
       refine lN ?_
       refine kB ?_
       refine l_end (n_then ?_)
       refine c_true rfl ?_
       refine c_seq (c_reg ?_)
       refine bB ?_
       refine l_end (n_then (c_ret (r_then ?_)))
       refine ret_tmp (v := .bool _) rfl rfl ?_
       have e1 : stp o f o.length = x.2 := by rw [show o.length = x.1 by omega]; exact hst
       have hv : askW q x.2.1 x.2.2.1 x.2.2.2 = _ := ask_no (by rw [← hb1]; omega)
       exact ⟨_, [_], rfl, ⟨by rw [plays, e1]; exact congrArg Value.bool hv.symm, by rw [askd, e1, ← hb1]⟩, hW.drop 1⟩
     ·intro hc36
      replace hc36 := of_decide_eq_false hc36
      refine y_val (r_assign (v := .bool _) rfl rfl) rfl rfl ?_
      refine y_end ?_
      intro W hW
      refine n_then (c_seq (c_seq (c_reg ?_)))
      refine l_val (r_fieldAddr 0 Tryz.underlying206 rfl tyC3.size rfl rfl rfl) rfl rfl ?_
      refine dC hW 0 tyC3 ?_
      refine l_val (r_eqlN (n := 0) rfl rfl rfl rfl) rfl rfl ?_
      refine l_split ?_ ?_
      ·intro hc38
       replace hc38 := of_decide_eq_true hc38
       refine aB ?_
       refine lN ?_
       refine kB ?_
       refine aB ?_
       refine lN ?_
       refine kB ?_
       refine l_end (n_then ?_)
       refine c_true rfl ?_
       refine c_seq (c_reg ?_)
       refine bB ?_
       refine l_end (n_then (c_ret (r_then ?_)))
       refine ret_tmp (v := .bool _) rfl rfl ?_
       have e1 : stp o f o.length = x.2 := by rw [show o.length = x.1 by omega]; exact hst
       have hv : askW q x.2.1 x.2.2.1 x.2.2.2 = _ := ask_no (by rw [← hb1]; omega)
       exact ⟨_, [_], rfl, ⟨by rw [plays, e1]; exact congrArg Value.bool hv.symm, by rw [askd, e1, ← hb1]⟩, hW.drop 1⟩
      ·intro hc38
       replace hc38 := of_decide_eq_false hc38
       refine aB ?_
       refine l_valG (r_move (v := .bool _) rfl rfl) (by kernel_rfl) rfl ?_
       refine kB ?_
       refine aB ?_
       refine lN ?_
       refine kB ?_
       refine l_end (n_then ?_)
       refine c_true rfl ?_
       refine c_seq (c_reg ?_)
       refine bB ?_
       refine l_end (n_then (c_ret (r_then ?_)))
       refine ret_tmp (v := .bool _) rfl rfl ?_
       have e1 : stp o f o.length = x.2 := by rw [show o.length = x.1 by omega]; exact hst
       have hv : askW q x.2.1 x.2.2.1 x.2.2.2 = _ := ask_no (by rw [← hb1]; omega)
       exact ⟨_, [_], rfl, ⟨by rw [plays, e1]; exact congrArg Value.bool hv.symm, by rw [askd, e1, ← hb1]⟩, hW.drop 1⟩
    ·intro hc35
     replace hc35 := of_decide_eq_false hc35
     refine yK ?_
     refine y_val (r_assign (v := .bool _) rfl rfl) rfl rfl ?_
     refine y_end ?_
     intro W hW
     refine n_then (c_seq ?_)
     refine c_regY hW [] [.q, .q, .q, .q, .q, .q, .q, .q, .q, .q, .q, .q, .q, .q, .q, .q, .q] [0, 1, 3, 7, 0, 0, 48, 112, 0, 256, 1023, 0, 0, 6144, 14336, 32767, 65535] (by kernel_rfl) (by kernel_rfl) ?_
     refine y_val (r_move (v := .pointer _) rfl rfl) rfl rfl ?_
     refine y_val (r_nilCheck rfl rfl) rfl rfl ?_
     refine y_val (r_fieldAddr 10 Tryz.underlying31 rfl tyA29.size rfl rfl rfl) rfl rfl ?_
     refine y_loadP 1 tyA29 (by kernel_rfl) rfl rfl rfl rfl (by rw [List.length_append, boC_len]; omega) (boC_keyR _ _ _) (by decide) ?_
     refine yI ?_
     refine yI ?_
     refine y_val (r_quoN (m := q.a.toNat) (n := q.n.toNat + 1) rfl (congrArg (Value.int .i64) ha) (congrArg (Value.int .i64) hb) (by omega) (by omega)) rfl rfl ?_
     refine y_val (r_conv_i64_u64 Tryz.underlying3 Tryz.underlying22 rfl rfl) rfl rfl ?_
     refine yI ?_
     refine y_val (r_conv_i64_u64 (n := q.n.toNat + 1) Tryz.underlying3 Tryz.underlying22 rfl (congrArg (Value.int .i64) hb)) rfl rfl ?_
     refine y_call (g_Number _ _ _) en129 rfl rfl rfl rfl ?_
     refine yI ?_
     refine yI ?_
     refine y_val (r_remN (m := q.a.toNat) (n := q.n.toNat + 1) rfl (congrArg (Value.int .i64) ha) (congrArg (Value.int .i64) hb) (by omega)) rfl rfl ?_
     refine y_val (r_conv_i64_u64 Tryz.underlying3 Tryz.underlying22 rfl rfl) rfl rfl ?_
     refine y_val (r_neqN rfl rfl rfl rfl) rfl rfl ?_
     refine y_split ?_ ?_
     ·intro hc39
      replace hc39 := of_decide_eq_true hc39
      refine y_val (r_assign (v := .bool _) rfl rfl) rfl rfl ?_
      refine y_end ?_
      intro W hW
      refine n_then (c_seq (c_seq (c_reg ?_)))
      refine l_val (r_fieldAddr 0 Tryz.underlying206 rfl tyC3.size rfl rfl rfl) rfl rfl ?_
      refine dC hW 0 tyC3 ?_
      refine l_val (r_eqlN (n := 0) rfl rfl rfl rfl) rfl rfl ?_
      refine l_split ?_ ?_
      ·intro hc40
       replace hc40 := of_decide_eq_true hc40
       refine aB ?_
       refine lN ?_
       refine kB ?_
       refine aB ?_
       refine lN ?_
       refine kB ?_
       refine l_end (n_then ?_)
       refine c_true rfl ?_
       refine c_seq (c_reg ?_)
       refine bB ?_
       refine l_end (n_then (c_ret (r_then ?_)))
       refine ret_tmp (v := .bool _) rfl rfl ?_
       have e1 : stp o f o.length = x.2 := by rw [show o.length = x.1 by omega]; exact hst
       have hv : askW q x.2.1 x.2.2.1 x.2.2.2 = _ := ask_no (by rw [← hb1]; omega)
       exact ⟨_, [_], rfl, ⟨by rw [plays, e1]; exact congrArg Value.bool hv.symm, by rw [askd, e1, ← hb1]⟩, hW.drop 1⟩
      ·intro hc40
       replace hc40 := of_decide_eq_false hc40
       refine aB ?_
       refine l_valG (r_move (v := .bool _) rfl rfl) (by kernel_rfl) rfl ?_
       refine kB ?_
       refine aB ?_
       refine l_valG (r_move (v := .bool _) rfl rfl) (by kernel_rfl) rfl ?_
       refine kB ?_
       refine l_end (n_then ?_)
       refine c_true rfl ?_
       refine c_seq (c_reg ?_)
       refine bB ?_
       refine l_end (n_then (c_ret (r_then ?_)))
       refine ret_tmp (v := .bool _) rfl rfl ?_
       have e1 : stp o f o.length = x.2 := by rw [show o.length = x.1 by omega]; exact hst
       have hv : askW q x.2.1 x.2.2.1 x.2.2.2 = _ := ask_no (.inr (.inr (decide_eq_true (by rw [← ek]; exact hc39))))
       exact ⟨_, [_], rfl, ⟨by rw [plays, e1]; exact congrArg Value.bool hv.symm, by rw [askd, e1, ← hb1]⟩, hW.drop 1⟩
     ·intro hc39
      replace hc39 := of_decide_eq_false hc39
      refine y_val (r_assign (v := .bool _) rfl rfl) rfl rfl ?_
      refine y_end ?_
      intro W hW
      refine n_then (c_seq (c_seq (c_reg ?_)))
      refine l_val (r_fieldAddr 0 Tryz.underlying206 rfl tyC3.size rfl rfl rfl) rfl rfl ?_
      refine dC hW 0 tyC3 ?_
      refine l_val (r_eqlN (n := 0) rfl rfl rfl rfl) rfl rfl ?_
      refine l_split ?_ ?_
      ·intro hc41
       replace hc41 := of_decide_eq_true hc41
       refine aB ?_
       refine lN ?_
       refine kB ?_
       refine aB ?_
       refine lN ?_
       refine kB ?_
       refine l_end (n_then ?_)
       refine c_true rfl ?_
       refine c_seq (c_reg ?_)
       refine bB ?_
       refine l_end (n_then (c_ret (r_then ?_)))
       refine ret_tmp (v := .bool _) rfl rfl ?_
       have e1 : stp o f o.length = x.2 := by rw [show o.length = x.1 by omega]; exact hst
       have hv : askW q x.2.1 x.2.2.1 x.2.2.2 = _ := ask_no (by rw [← hb1]; omega)
       exact ⟨_, [_], rfl, ⟨by rw [plays, e1]; exact congrArg Value.bool hv.symm, by rw [askd, e1, ← hb1]⟩, hW.drop 1⟩
      ·intro hc41
       replace hc41 := of_decide_eq_false hc41
       refine aB ?_
       refine l_valG (r_move (v := .bool _) rfl rfl) (by kernel_rfl) rfl ?_
       refine kB ?_
       refine aB ?_
       refine l_valG (r_move (v := .bool _) rfl rfl) (by kernel_rfl) rfl ?_
       refine kB ?_
       refine l_end (n_then ?_)
       refine c_false rfl ?_
       refine c_skip (n_then (c_seq ?_))
       refine c_regY hW [] [.q, .q, .q, .q, .q, .q, .q, .q, .q, .q, .q] [0, 1, 3, 7, 15, 31, 63, 15, 255, 511, 1023] (by kernel_rfl) (by kernel_rfl) ?_
       refine y_val (r_fieldAddr 1 Tryz.underlying206 rfl tyC3.size rfl rfl rfl) rfl rfl ?_
       refine y_loadC 0 tyC3 rfl rfl rfl rfl rfl rfl (by decide) ?_
       refine y_val (r_eqlN (n := 0) rfl rfl rfl rfl) rfl rfl ?_
       refine y_split ?_ ?_
       ·intro hc42
        replace hc42 := of_decide_eq_true hc42
        refine yB ?_
        refine yN ?_
        refine yN ?_
        refine yN ?_
        refine yN ?_
        refine yN ?_
        refine yK ?_
        refine y_val (r_assign (v := .bool _) rfl rfl) rfl rfl ?_
        refine y_end ?_
        intro W hW
        refine n_then (c_ret ?_)
        refine ret_tmp (v := .bool _) rfl rfl ?_
        have e1 : stp o f o.length = x.2 := by rw [show o.length = x.1 by omega]; exact hst
        have hneg : ¬ (x.2.1 = 0 ∨ (0 < q.v ∧ q.v < (after q x.2.1 x.2.2.1).x) ∨ noiseB q = true) := by
         rw [← hb1, show noiseB q = false from decide_eq_false (by rw [← ek]; exact hc39)]
         rintro (h | ⟨h1, h2⟩ | h)
         ·omega
         ·omega
         ·cases h
        have hv : askW q x.2.1 x.2.2.1 x.2.2.2 = _ := ask_y0 hneg (by omega)
        exact ⟨_, [_], rfl, ⟨by rw [plays, e1]; exact congrArg Value.bool hv.symm, by rw [askd, e1, ← hb1]⟩, hW.drop 1⟩
       ·intro hc42
        replace hc42 := of_decide_eq_false hc42
        refine yB ?_
        refine y_val (r_move (v := .pointer _) rfl rfl) (by kernel_rfl) rfl ?_
        refine y_val (r_nilCheck rfl rfl) (by kernel_rfl) rfl ?_
        refine y_loadP 1 tyA31 (by kernel_rfl) rfl rfl rfl rfl (by rw [List.length_append, boC_len]; omega) (boC_boxR _ _ _) (by decide) ?_
        refine y_loadA 0 tyA206 (by kernel_rfl) rfl rfl rfl rfl (by first | rfl | exact kc_len _ | exact kcf_len _ | exact boC_len _ _ | (simp; done)) (by decide) ?_
        refine y_call (g_plays b1 t x.2.1 x.2.2.1 x.2.2.2 (by omega) (by omega) (by omega) (by omega)) en130 (by kernel_rfl) rfl rfl rfl ?_
        refine yK ?_
        refine y_val (r_assign (v := .bool _) rfl rfl) rfl rfl ?_
        refine y_end ?_
        intro W hW
        refine n_then (c_ret ?_)
        refine ret_tmp (v := .bool _) rfl rfl ?_
        have e1 : stp o f o.length = x.2 := by rw [show o.length = x.1 by omega]; exact hst
        have hneg : ¬ (x.2.1 = 0 ∨ (0 < q.v ∧ q.v < (after q x.2.1 x.2.2.1).x) ∨ noiseB q = true) := by
         rw [← hb1, show noiseB q = false from decide_eq_false (by rw [← ek]; exact hc39)]
         rintro (h | ⟨h1, h2⟩ | h)
         ·omega
         ·omega
         ·cases h
        have hv : askW q x.2.1 x.2.2.1 x.2.2.2 = _ := (ask_w hneg (by omega)).trans (play_congr em ek).symm
        exact ⟨_, [_], rfl, ⟨by rw [plays, e1]; exact congrArg Value.bool hv.symm, by rw [askd, e1, ← hb1]⟩, hW.drop 1⟩
   ·intro hc34
    replace hc34 := of_decide_eq_false hc34
    refine yB ?_
    refine yN ?_
    refine yN ?_
    refine yN ?_
    refine yN ?_
    refine yN ?_
    refine yN ?_
    refine yN ?_
    refine yN ?_
    refine yN ?_
    refine yK ?_
    refine y_val (r_assign (v := .bool _) rfl rfl) rfl rfl ?_
    refine y_end ?_
    intro W hW
    refine n_then (c_seq ?_)
    refine c_regY hW [] [.q, .q, .q, .q, .q, .q, .q, .q, .q, .q, .q, .q, .q, .q, .q, .q, .q] [0, 1, 3, 7, 0, 0, 48, 112, 0, 256, 1023, 0, 0, 6144, 14336, 32767, 65535] (by kernel_rfl) (by kernel_rfl) ?_
    refine y_val (r_move (v := .pointer _) rfl rfl) rfl rfl ?_
    refine y_val (r_nilCheck rfl rfl) rfl rfl ?_
    refine y_val (r_fieldAddr 10 Tryz.underlying31 rfl tyA29.size rfl rfl rfl) rfl rfl ?_
    refine y_loadP 1 tyA29 (by kernel_rfl) rfl rfl rfl rfl (by rw [List.length_append, boC_len]; omega) (boC_keyR _ _ _) (by decide) ?_
    refine yI ?_
    refine yI ?_
    refine y_val (r_quoN (m := q.a.toNat) (n := q.n.toNat + 1) rfl (congrArg (Value.int .i64) ha) (congrArg (Value.int .i64) hb) (by omega) (by omega)) rfl rfl ?_
    refine y_val (r_conv_i64_u64 Tryz.underlying3 Tryz.underlying22 rfl rfl) rfl rfl ?_
    refine yI ?_
    refine y_val (r_conv_i64_u64 (n := q.n.toNat + 1) Tryz.underlying3 Tryz.underlying22 rfl (congrArg (Value.int .i64) hb)) rfl rfl ?_
    refine y_call (g_Number _ _ _) en129 rfl rfl rfl rfl ?_
    refine yI ?_
    refine yI ?_
    refine y_val (r_remN (m := q.a.toNat) (n := q.n.toNat + 1) rfl (congrArg (Value.int .i64) ha) (congrArg (Value.int .i64) hb) (by omega)) rfl rfl ?_
    refine y_val (r_conv_i64_u64 Tryz.underlying3 Tryz.underlying22 rfl rfl) rfl rfl ?_
    refine y_val (r_neqN rfl rfl rfl rfl) rfl rfl ?_
    refine y_split ?_ ?_
    ·intro hc43
     replace hc43 := of_decide_eq_true hc43
     refine y_val (r_assign (v := .bool _) rfl rfl) rfl rfl ?_
     refine y_end ?_
     intro W hW
     refine n_then (c_seq (c_seq (c_reg ?_)))
     refine l_val (r_fieldAddr 0 Tryz.underlying206 rfl tyC3.size rfl rfl rfl) rfl rfl ?_
     refine dC hW 0 tyC3 ?_
     refine l_val (r_eqlN (n := 0) rfl rfl rfl rfl) rfl rfl ?_
     refine l_split ?_ ?_
     ·intro hc44
      replace hc44 := of_decide_eq_true hc44
      refine aB ?_
      refine lN ?_
      refine kB ?_
      refine aB ?_
      refine lN ?_
      refine kB ?_
      refine l_end (n_then ?_)
      refine c_true rfl ?_
      refine c_seq (c_reg ?_)
      refine bB ?_
      refine l_end (n_then (c_ret (r_then ?_)))
      refine ret_tmp (v := .bool _) rfl rfl ?_
      have e1 : stp o f o.length = x.2 := by rw [show o.length = x.1 by omega]; exact hst
      have hv : askW q x.2.1 x.2.2.1 x.2.2.2 = _ := ask_no (by rw [← hb1]; omega)
      exact ⟨_, [_], rfl, ⟨by rw [plays, e1]; exact congrArg Value.bool hv.symm, by rw [askd, e1, ← hb1]⟩, hW.drop 1⟩
     ·intro hc44
      replace hc44 := of_decide_eq_false hc44
      refine aB ?_
      refine l_valG (r_move (v := .bool _) rfl rfl) (by kernel_rfl) rfl ?_
      refine kB ?_
      refine aB ?_
      refine l_valG (r_move (v := .bool _) rfl rfl) (by kernel_rfl) rfl ?_
      refine kB ?_
      refine l_end (n_then ?_)
      refine c_true rfl ?_
      refine c_seq (c_reg ?_)
      refine bB ?_
      refine l_end (n_then (c_ret (r_then ?_)))
      refine ret_tmp (v := .bool _) rfl rfl ?_
      have e1 : stp o f o.length = x.2 := by rw [show o.length = x.1 by omega]; exact hst
      have hv : askW q x.2.1 x.2.2.1 x.2.2.2 = _ := ask_no (.inr (.inr (decide_eq_true (by rw [← ek]; exact hc43))))
      exact ⟨_, [_], rfl, ⟨by rw [plays, e1]; exact congrArg Value.bool hv.symm, by rw [askd, e1, ← hb1]⟩, hW.drop 1⟩
    ·intro hc43
     replace hc43 := of_decide_eq_false hc43
     refine y_val (r_assign (v := .bool _) rfl rfl) rfl rfl ?_
     refine y_end ?_
     intro W hW
     refine n_then (c_seq (c_seq (c_reg ?_)))
     refine l_val (r_fieldAddr 0 Tryz.underlying206 rfl tyC3.size rfl rfl rfl) rfl rfl ?_
     refine dC hW 0 tyC3 ?_
     refine l_val (r_eqlN (n := 0) rfl rfl rfl rfl) rfl rfl ?_
     refine l_split ?_ ?_
     ·intro hc45
      replace hc45 := of_decide_eq_true hc45
      refine aB ?_
      refine lN ?_
      refine kB ?_
      refine aB ?_
      refine lN ?_
      refine kB ?_
      refine l_end (n_then ?_)
      refine c_true rfl ?_
      refine c_seq (c_reg ?_)
      refine bB ?_
      refine l_end (n_then (c_ret (r_then ?_)))
      refine ret_tmp (v := .bool _) rfl rfl ?_
      have e1 : stp o f o.length = x.2 := by rw [show o.length = x.1 by omega]; exact hst
      have hv : askW q x.2.1 x.2.2.1 x.2.2.2 = _ := ask_no (by rw [← hb1]; omega)
      exact ⟨_, [_], rfl, ⟨by rw [plays, e1]; exact congrArg Value.bool hv.symm, by rw [askd, e1, ← hb1]⟩, hW.drop 1⟩
     ·intro hc45
      replace hc45 := of_decide_eq_false hc45
      refine aB ?_
      refine l_valG (r_move (v := .bool _) rfl rfl) (by kernel_rfl) rfl ?_
      refine kB ?_
      refine aB ?_
      refine l_valG (r_move (v := .bool _) rfl rfl) (by kernel_rfl) rfl ?_
      refine kB ?_
      refine l_end (n_then ?_)
      refine c_false rfl ?_
      refine c_skip (n_then (c_seq ?_))
      refine c_regY hW [] [.q, .q, .q, .q, .q, .q, .q, .q, .q, .q, .q] [0, 1, 3, 7, 15, 31, 63, 15, 255, 511, 1023] (by kernel_rfl) (by kernel_rfl) ?_
      refine y_val (r_fieldAddr 1 Tryz.underlying206 rfl tyC3.size rfl rfl rfl) rfl rfl ?_
      refine y_loadC 0 tyC3 rfl rfl rfl rfl rfl rfl (by decide) ?_
      refine y_val (r_eqlN (n := 0) rfl rfl rfl rfl) rfl rfl ?_
      refine y_split ?_ ?_
      ·intro hc46
       replace hc46 := of_decide_eq_true hc46
       refine yB ?_
       refine yN ?_
       refine yN ?_
       refine yN ?_
       refine yN ?_
       refine yN ?_
       refine yK ?_
       refine y_val (r_assign (v := .bool _) rfl rfl) rfl rfl ?_
       refine y_end ?_
       intro W hW
       refine n_then (c_ret ?_)
       refine ret_tmp (v := .bool _) rfl rfl ?_
       have e1 : stp o f o.length = x.2 := by rw [show o.length = x.1 by omega]; exact hst
       have hneg : ¬ (x.2.1 = 0 ∨ (0 < q.v ∧ q.v < (after q x.2.1 x.2.2.1).x) ∨ noiseB q = true) := by
        rw [← hb1, show noiseB q = false from decide_eq_false (by rw [← ek]; exact hc43)]
        rintro (h | ⟨h1, h2⟩ | h)
        ·omega
        ·omega
        ·cases h
       have hv : askW q x.2.1 x.2.2.1 x.2.2.2 = _ := ask_y0 hneg (by omega)
       exact ⟨_, [_], rfl, ⟨by rw [plays, e1]; exact congrArg Value.bool hv.symm, by rw [askd, e1, ← hb1]⟩, hW.drop 1⟩
      ·intro hc46
       replace hc46 := of_decide_eq_false hc46
       refine yB ?_
       refine y_val (r_move (v := .pointer _) rfl rfl) (by kernel_rfl) rfl ?_
       refine y_val (r_nilCheck rfl rfl) (by kernel_rfl) rfl ?_
       refine y_loadP 1 tyA31 (by kernel_rfl) rfl rfl rfl rfl (by rw [List.length_append, boC_len]; omega) (boC_boxR _ _ _) (by decide) ?_
       refine y_loadA 0 tyA206 (by kernel_rfl) rfl rfl rfl rfl (by first | rfl | exact kc_len _ | exact kcf_len _ | exact boC_len _ _ | (simp; done)) (by decide) ?_
       refine y_call (g_plays b1 t x.2.1 x.2.2.1 x.2.2.2 (by omega) (by omega) (by omega) (by omega)) en130 (by kernel_rfl) rfl rfl rfl ?_
       refine yK ?_
       refine y_val (r_assign (v := .bool _) rfl rfl) rfl rfl ?_
       refine y_end ?_
       intro W hW
       refine n_then (c_ret ?_)
       refine ret_tmp (v := .bool _) rfl rfl ?_
       have e1 : stp o f o.length = x.2 := by rw [show o.length = x.1 by omega]; exact hst
       have hneg : ¬ (x.2.1 = 0 ∨ (0 < q.v ∧ q.v < (after q x.2.1 x.2.2.1).x) ∨ noiseB q = true) := by
        rw [← hb1, show noiseB q = false from decide_eq_false (by rw [← ek]; exact hc43)]
        rintro (h | ⟨h1, h2⟩ | h)
        ·omega
        ·omega
        ·cases h
       have hv : askW q x.2.1 x.2.2.1 x.2.2.2 = _ := (ask_w hneg (by omega)).trans (play_congr em ek).symm
       exact ⟨_, [_], rfl, ⟨by rw [plays, e1]; exact congrArg Value.bool hv.symm, by rw [askd, e1, ← hb1]⟩, hW.drop 1⟩

end Go.Proofs.YtoegpalacppllaaGreat

/- Lists, by the library. -/
namespace Go.Proofs.YtoegpalacppllaaGreat
open Go.RowKit Pl
open Tr Hn
set_option maxRecDepth 10000 in
/-- slices.Clone[[]int,int] -/
theorem g_Clone (aa : Option Addr) (an ac : Nat) (l : List Int) (hl : l.length ≤ 4294967296) : GivesX Tryz.prog 60 [.slice aa an ac].toArray (fun w => RdI w ⟨aa, an, ac⟩ l) (fun v Bs => ∃ s : Sl, v = s.v ∧ NewI s l Bs) := by
 refine givesX_of Tryz.func60 rfl (bs := [.slice aa an ac, undef, undef, undef, undef, undef, undef, undef]) rfl ?_
 intro w hP hW
 have hn : an = l.length := hP.len
 refine c_seq (c_reg ?_)
 refine bS ?_
 refine l_end (n_then (c_seq (c_seq (c_reg ?_))))
 refine aS ?_
 refine l_val (r_eqlNil Tryz.underlying27 rfl rfl rfl rfl) rfl rfl ?_
 refine l_split ?_ ?_
 ·intro hc1
  replace hc1 := of_decide_eq_true hc1
  refine l_end (n_then ?_)
  refine c_true rfl ?_
  refine c_seq (c_reg ?_)
  refine bS ?_
  refine l_end (n_then (c_ret (r_then ?_)))
  refine ret_tmp (v := .slice _ _ _) rfl rfl ?_
  exact ⟨_, [], rfl, ⟨Sl.no, rfl, by rw [show l = [] from List.eq_nil_of_length_eq_zero (by have := hP.ok.nil0 hc1; simp only at this; omega)]; exact NewI.no⟩, hW.sub (List.nil_sublist _)⟩
 ·intro hc1
  replace hc1 := of_decide_eq_false hc1
  refine l_end (n_then ?_)
  refine c_false rfl ?_
  refine c_skip (n_then (c_seq (c_reg ?_)))
  refine l_buildSliceF hW bsl27_0_ rfl rfl rfl rfl ?_
  intro ge W hW
  refine aS ?_
  refine l_twin tyE27 hW (s := ⟨aa, an, ac⟩) (RdI.past hP hW.below) (by omega) hl rfl rfl rfl rfl rfl ?_
  intro s2 Bs W hs hW
  refine bS ?_
  refine l_end (n_then (c_ret ?_))
  refine ret_tmp (v := .slice _ _ _) rfl rfl ?_
  exact ⟨_, _, rfl, ⟨s2, rfl, hs⟩, hW.sub (List.sublist_append_right _ _)⟩

end Go.Proofs.YtoegpalacppllaaGreat

/- An iterator over a list that lay there. -/
namespace Go.Proofs.YtoegpalacppllaaGreat
open Go.RowKit Pl
open Tr Hn
set_option maxRecDepth 10000 in
/-- slices.Values[[]int,int]$1 -/
theorem j_Values {w : World} (l0 : List Int) (g : Nat) (aa : Option Addr) (an ac : Nat) (hl : l0.length ≤ 4294967296) (hP : RdV w g ⟨aa, an, ac⟩ l0) : IterJ Tryz.prog w 163 #[.pointer (some ⟨g, 0, none⟩)] an (fun i => #[.int .i64 (at_ l0 i)]) := by
 refine iterJ_of (lb := [.pointer (some ⟨g, 0, none⟩)]) (F := fun l => [.func (.yield l) #[] #[], .pointer (some ⟨g, 0, none⟩), undef, undef, undef, undef, undef, undef, undef, undef, undef, undef, undef, undef, undef, undef]) Tryz.func163 rfl (fun l => rfl) ?_
 intro r l J L0 W hY hJ hW
 have hn : an = l0.length := hP.rd.len
 refine c_seq (c_reg ?_)
 refine l_loadW tyC27 (v := .slice aa an ac) (hP.past hW.below).box rfl rfl rfl rfl ?_
 refine l_val (r_lenSlice Tryz.underlying27 rfl rfl) rfl rfl ?_
 refine aI ?_
 refine l_end (n_then (c_block ?_))
 refine c_loop (fun (x : Nat × List Blk) (j : Nat → Value) => [.func (.yield l) #[] #[], .pointer (some ⟨g, 0, none⟩), j 2, j 3, j 4, .slice aa an ac, .int .i64 (an : Int), .int .i64 (x.1 : Int), j 8, j 9, j 10, j 11, j 12, j 13, j 14, j 15]) (fun (x : Nat × List Blk) => [] ++ x.2) (fun (x : Nat × List Blk) => x.1 ≤ an ∧ J x.1 x.2) (fun (x : Nat × List Blk) => an - x.1) (0, L0) (by kernel_rfl) hW ⟨Nat.zero_le _, hJ⟩ ?_
 intro x j W hx hW
 obtain ⟨hx, hJx⟩ := hx
 refine c_seq (c_reg ?_)
 refine l_val (r_lssN rfl rfl rfl rfl) rfl rfl ?_
 refine l_split ?_ ?_
 ·intro hc1
  replace hc1 := of_decide_eq_true hc1
  obtain ⟨b0, o0, ha, hc⟩ := hP.rd.ptr (by omega)
  simp only at ha
  subst ha
  refine l_end (n_then (c_seq ?_))
  refine c_true rfl ?_
  refine c_skip (n_then (c_seq (c_block (c_seq (c_reg ?_)))))
  refine l_val (r_indexAddrSl2 (n := x.1) Tryz.underlying27 tyC3.size rfl rfl rfl (by omega)) rfl rfl ?_
  refine l_loadF hW tyC3 (v := .int .i64 (at_ l0 (x.1))) (hc (x.1) (by omega)) rfl rfl rfl rfl ?_
  refine bI ?_
  refine l_end (n_then (c_seq (c_reg ?_)))
  refine l_val (r_move (v := .func _ _ _) rfl rfl) rfl rfl ?_
  refine aI ?_
  refine l_yieldJ (hY x.1 [] x.2 W (by omega) hJx (by rw [List.append_nil]; exact hW)) rfl rfl rfl rfl rfl ?_
  intro Lc1 W hJ1 hW
  rw [List.append_nil] at hW
  refine l_val (r_not rfl rfl) rfl rfl ?_
  refine l_end (n_then ?_)
  refine c_false rfl ?_
  refine c_skip (n_block (n_then (c_reg ?_)))
  refine l_val (r_addN (n := 1) rfl rfl rfl (by omega)) rfl rfl ?_
  refine aI ?_
  refine l_end (n_then ?_)
  exact loop_next (x.1 + 1, Lc1) (by kernel_rfl) hW ⟨by simp only; omega, hJ1⟩ (by simp only; omega)
 ·intro hc1
  replace hc1 := of_decide_eq_false hc1
  have e : x.1 = an := by omega
  rw [e] at hJx
  refine l_end (n_then (c_seq ?_))
  refine c_false rfl ?_
  refine c_exit (x_then (x_then ?_))
  refine x_hit ?_
  refine postM_of ?_
  refine end_none rfl ?_
  exact ⟨⟨_, rfl⟩, x.2, hJx, hW⟩

end Go.Proofs.YtoegpalacppllaaGreat

