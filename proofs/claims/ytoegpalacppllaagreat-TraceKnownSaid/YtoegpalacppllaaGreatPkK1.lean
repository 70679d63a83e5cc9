/- For every box of at most 100 receivers and every list of at most 64 subsets: without noise, with no fakes and while it is not dead, the box plays just if a receiver of its coalition is a member of one of the subsets; with only fakes it never plays; no conditions. -/
import Derived.Test.YtoegpalacppllaaGreatPkB5
import Derived.Test.YtoegpalacppllaaGreatProg
import Derived.ChangeSlices
import Derived.ChangeMaps5
import Derived.Test.YtoegpalacppllaaGreatRows
/- More results, more slices. No function of the program is in sight here. -/
namespace Go.Proofs.YtoegpalacppllaaGreat
open Go.RowKit Pl

section
variable {P : Program} {bs : List Value} {us : List (Nat × Value)} {w0 : Base} {W : World} {L : List Blk} {v : Value} {fn : Func} {R' : Ending → World → Prop}
theorem run_equalBool (d : Nat) {t : TypeId} (ht : P.underlying t = some .bool) (a b : Bool) (w : World) : (Op.equalIn (d + 1) t (.bool a) (.bool b)).run P w = .ok (a == b) w := by
  simp [Op.equalIn, run_underlying ht]
theorem r_eqlBool {o : Oper} {t t' : Nat} {p q : Operand} {a b c : Bool} (ht : P.underlying t = some .bool) (ho : o.op = .binOp .eql t p q t') (hx : ev bs us p = .bool a) (hy : ev bs us q = .bool b) (hc : (a == b) = c) : Runs P bs us o (.bool c) := fun w => by
  subst hc
  have h : (Op.equal t (.bool a) (.bool b)).run P w = .ok (a == b) w := run_equalBool 9999 ht a b w
  unfold execOp
  simp [ho, hx, hy, eqGuard, binOp, h]
section
variable {ops : Array Oper} {Q : Exit → Act → World → Prop} {ds : List Deferred} {rest : List Oper} {o : Oper} {d : Nat} {r : Option (Option Nat)} {m : Nat}
/-! operations under a guard that lets them run -/
end
end
end Go.Proofs.YtoegpalacppllaaGreat

/- Plain laws of lists and hunts, in the words of loops. No program is in sight here. -/
namespace Go.Proofs.YtoegpalacppllaaGreat.Hn

theorem has_at {l : LI} {i : Nat} {x : Int} (h : i < l.length) (e : at_ l i = x) : l.contains x = true := by
  subst e; simpa using at_mem h
theorem has_no {l : LI} {n : Nat} {x : Int} (hn : n = l.length) (h : ∀ k, k < n → at_ l k ≠ x) : l.contains x = false := by
  subst hn
  rw [← Bool.not_eq_true, List.contains_iff_mem]
  intro hm
  obtain ⟨i, hi, e⟩ := mem_at hm
  exact h i hi e
end Go.Proofs.YtoegpalacppllaaGreat.Hn

/- Closed facts on types and functions of the program, written by a program. -/
namespace Go.Proofs.YtoegpalacppllaaGreat
open Pl
theorem en31 : Enters Tryz.prog 31 := enters_of Tryz.func31 (by kernel_rfl) rfl
theorem en40 : Enters Tryz.prog 40 := enters_of Tryz.func40 (by kernel_rfl) rfl
end Go.Proofs.YtoegpalacppllaaGreat

/- What a law's arguments are: opened by their types. -/
namespace Go.Proofs.YtoegpalacppllaaGreat
open Go.RowKit Go.ChangeShapes Go.WideShapes Pl

section
variable {P : Program} {W : World}

theorem arr_of {args : Array Value} {l : List Value} (h : args.toList = l) : args = l.toArray := by subst h; simp

end
end Go.Proofs.YtoegpalacppllaaGreat

/- Whether a number is in a list; subsets of a scheme that is not valid. -/
namespace Go.Proofs.YtoegpalacppllaaGreat
open Go.RowKit Pl
open Tr Hn
set_option maxRecDepth 10000 in
/-- headend/headendlaw08.in -/
theorem g_in (aa : Option Addr) (an ac : Nat) (l : List Int) (x : Int) (hl : l.length ≤ 4294967296) : GivesR Tryz.prog 40 [.slice aa an ac, .int .i64 x].toArray (fun w => RdI w ⟨aa, an, ac⟩ l) (.bool (l.contains x)) := by
 refine givesR_of Tryz.func40 rfl (bs := [.slice aa an ac, .int .i64 x, undef, undef, undef, undef, undef, undef, undef, undef, undef, undef, undef, undef, undef, undef, undef, undef]) rfl ?_
 intro w hP hW
 have hn : an = l.length := hP.len
 refine c_seq (c_reg ?_)
 refine bB ?_
 refine l_end (n_then (c_seq (c_seq (c_reg ?_))))
 refine aS ?_
 refine l_val (r_lenSlice Tryz.underlying27 rfl rfl) rfl rfl ?_
 refine aI ?_
 refine l_end (n_then (c_block ?_))
 refine c_loop (fun (i : Nat) (j : Nat → Value) => [.slice aa an ac, .int .i64 x, j 2, j 3, j 4, j 5, .slice aa an ac, .int .i64 (an : Int), .int .i64 (i : Int), j 9, j 10, j 11, j 12, j 13, j 14, j 15, j 16, j 17]) (fun (i : Nat) => []) (fun (i : Nat) => i ≤ an ∧ ∀ k, k < i → at_ l k ≠ x) (fun (i : Nat) => an - i) 0 (by kernel_rfl) hW ⟨by omega, all_zero⟩ ?_
 intro i j W hx hW
 refine c_seq (c_reg ?_)
 refine l_val (r_lssN rfl rfl rfl rfl) rfl rfl ?_
 refine l_split ?_ ?_
 ·intro hc1
  replace hc1 := of_decide_eq_true hc1
  obtain ⟨b0, o0, ha, hc⟩ := hP.ptr (by omega)
  simp only at ha
  subst ha
  refine l_end (n_then (c_seq ?_))
  refine c_true rfl ?_
  refine c_skip (n_then (c_seq (c_block (c_seq (c_reg ?_)))))
  refine aI ?_
  refine bI ?_
  refine l_end (n_then (c_seq (c_reg ?_)))
  refine aS ?_
  refine aI ?_
  refine l_val (r_indexAddrSl2 (n := i) Tryz.underlying27 tyC3.size rfl rfl rfl (by omega)) rfl rfl ?_
  refine l_loadF hW tyC3 (v := .int .i64 (at_ l (i))) (hc (i) (by omega)) rfl rfl rfl rfl ?_
  refine aI ?_
  refine l_val (r_eql rfl rfl rfl rfl) rfl rfl ?_
  refine l_split ?_ ?_
  ·intro hc2
   replace hc2 := of_decide_eq_true hc2
   refine l_end (n_then ?_)
   refine c_true rfl ?_
   refine c_seq (c_reg ?_)
   refine bB ?_
   refine l_end (n_then (c_ret (r_block (r_then (r_then (r_block (r_then ?_)))))))
   refine ret_tmp (v := .bool (l.contains x)) rfl ?_ ⟨rfl, hW.below⟩
   rw [has_at (by omega) hc2]; rfl
  ·intro hc2
   replace hc2 := of_decide_eq_false hc2
   refine l_end (n_then ?_)
   refine c_false rfl ?_
   refine c_skip (n_block (n_then (c_reg ?_)))
   refine l_val (r_addN (n := 1) rfl rfl rfl (by omega)) rfl rfl ?_
   refine aI ?_
   refine l_end (n_then ?_)
   exact loop_next (i + 1) (by kernel_rfl) hW ⟨by omega, all_step hx.2 hc2⟩ (by omega)
 ·intro hc1
  replace hc1 := of_decide_eq_false hc1
  refine l_end (n_then (c_seq ?_))
  refine c_false rfl ?_
  refine c_exit (x_then (x_then ?_))
  refine x_hit ?_
  refine n_then (c_seq (c_reg ?_))
  refine bB ?_
  refine l_end (n_then (c_ret ?_))
  refine ret_tmp (v := .bool (l.contains x)) rfl ?_ ⟨rfl, hW.below⟩
  rw [has_no hn fun k hk => hx.2 k (by omega)]; rfl

end Go.Proofs.YtoegpalacppllaaGreat

/- Plain laws of the cipher's round trips. No program is in sight here. -/
namespace Go.Proofs.YtoegpalacppllaaGreat.Pl
theorem number_lt (k : Kw) (n : W64) {most : W64} (h : ¬ most = 0#64) : (number k n most).toNat < most.toNat := by
  unfold number
  rw [if_neg h, BitVec.toNat_umod]
  refine Nat.mod_lt _ (Nat.pos_of_ne_zero fun e => h (BitVec.eq_of_toNat_eq (by simpa using e)))
end Go.Proofs.YtoegpalacppllaaGreat.Pl

/- What a trace proves: noise, deadness, who is named. No program is in sight here. -/
namespace Go.Proofs.YtoegpalacppllaaGreat.Tr
open Hn

/-- a box after so many queries of the same kind -/
def asks (o : List Bool) (f : Int) : Nat → Bo → Bo
  | 0, b => b
  | j + 1, b => asks o f j (askd b o f)
theorem asks_run {b0 : Bo} (o : List Bool) (f : Int) : ∀ (j : Nat) {b : Bo} {c : Nat}, Askd b0 b c → Askd b0 (asks o f j b) (c + j)
  | 0, b, c, h => h
  | j + 1, b, c, h => by
    rw [show c + (j + 1) = c + 1 + j by omega]
    exact asks_run o f j (h.ask o f)
/-- whether a box would play, but for noise and death -/
def wishB (b : Bo) (o : List Bool) (f : Int) : Bool := !decide ((stp o f o.length).1 = 0) && (decide ((stp o f o.length).2.1 = 0) || playB b (stp o f o.length).1 (stp o f o.length).2.1 (stp o f o.length).2.2)
def deadB (b : Bo) : Bool := decide (0 < b.v ∧ b.v < b.x)
theorem plays_iff {b : Bo} {o : List Bool} {f : Int} : plays b o f = true ↔ wishB b o f = true ∧ ¬ (0 < b.v ∧ b.v < (askd b o f).x) ∧ noiseB b = false := by
  unfold plays askW wishB
  rw [show (after b (stp o f o.length).1 (stp o f o.length).2.1) = askd b o f from rfl]
  generalize stp o f o.length = s
  constructor
  · intro h
    split at h
    · cases h
    · next hn =>
      have h1 : ¬ s.1 = 0 := fun e => hn (.inl e)
      have h2 : ¬ (0 < b.v ∧ b.v < (askd b o f).x) := fun e => hn (.inr (.inl e))
      have h3 : noiseB b = false := by rw [← Bool.not_eq_true]; exact fun e => hn (.inr (.inr e))
      refine ⟨?_, h2, h3⟩
      split at h
      · next hw => simp [h1, hw]
      · simp [h1, h]
  · rintro ⟨h1, h2, h3⟩
    simp only [Bool.and_eq_true, Bool.not_eq_true', decide_eq_false_iff_not, Bool.or_eq_true, decide_eq_true_eq] at h1
    rw [if_neg (by rintro (h | h | h); exact h1.1 h; exact h2 h; rw [h3] at h; cases h)]
    split
    · rfl
    · next hw => exact h1.2.resolve_left hw
theorem wish_same {b0 b : Bo} {c : Nat} (h : Askd b0 b c) (o : List Bool) (f : Int) : wishB b o f = wishB b0 o f := by
  unfold wishB playB oddB; rw [h.m, h.k]
theorem dead_mono {b0 b : Bo} {c : Nat} (h : Askd b0 b c) (hd : deadB b0 = true) : deadB b = true := by
  unfold deadB at *
  have h1 := of_decide_eq_true hd
  have := h.v
  have := h.x2
  exact decide_eq_true (by omega)
/-- what holds of a box whenever it is asked -/
structure Okb (b : Bo) : Prop where
  n0 : 0 ≤ b.n
  n8 : b.n ≤ 8
  x0 : 0 ≤ b.x
  x1 : b.x ≤ b.a
theorem Okb.run {b0 b : Bo} {c : Nat} (k : Okb b0) (h : Askd b0 b c) : Okb b := ⟨by rw [h.n]; exact k.n0, by rw [h.n]; exact k.n8, h.x0, h.x1⟩
theorem Okb.refl {b : Bo} (k : Okb b) : Askd b b 0 := Askd.refl k.x0 k.x1
theorem stp_all (o : List Bool) (f : Int) : ∀ n : Nat, (n : Int) ≤ f → (stp o f n).1 = 0
  | 0, _ => rfl
  | n + 1, h => by
    have ih := stp_all o f n (by omega)
    rw [stp, if_pos (show (n : Int) < f by omega)]
    split <;> exact ih
theorem wish_len (b : Bo) (o : List Bool) : wishB b o (o.length : Int) = false := by
  unfold wishB
  rw [stp_all o _ o.length (Int.le_refl _)]; rfl
theorem opens_get {b : Bo} {l : List (Int × Int)} {i n : Nat} (hi : i < n) : (opens b l n).getD i false = opnB b.s b.l (qn l i) (qm l i) := by
  unfold opens; simp [List.getD_eq_getElem?_getD, hi]
theorem mem_opn {s : Sc} {c : List Int} {v w : Int} {u : Int} (hu : u ∈ c) (h : memB s v w u.toNat = true) : opnB s c v w = true := by
  obtain ⟨i, hi, rfl⟩ := mem_at.1 hu
  exact List.any_eq_true.2 ⟨i, List.mem_range.2 hi, h⟩
/-- the end of a trace -/
structure Fin (N : Nat) (b0 : Bo) (tot : List Int) (r : Ts × Nat) : Prop where
  e : r.2 = 1 ∨ r.2 = 2
  ask : Askd b0 r.1.b r.1.a
  part : Part b0.s tot r.1.l r.1.nm
  col : ∀ u ∈ r.1.nm, u ∈ b0.l
  shut : wishB r.1.b r.1.o 0 = false ∨ deadB r.1.b = true
  fit : r.1.a + N ≤ (2 * p2 b0.s.d.toNat + 1) * ((b0.s.d.toNat + 2) * N)
  all : b0.v = 0 → r.2 = 1 ∧ wishB r.1.b r.1.o 0 = false
end Go.Proofs.YtoegpalacppllaaGreat.Tr

/- What a box plays: as its coalition knows; what is not open does not count; noise. No program is in sight here. -/
namespace Go.Proofs.YtoegpalacppllaaGreat.Tr
open Hn

/-- the error of a query does not hang on how many of its items are fakes -/
theorem askE_fakes {b : Bo} {l : List (Int × Int)} {f g : Int} (hf : 0 ≤ f ∧ f ≤ l.length) (hg : 0 ≤ g ∧ g ≤ l.length) : askE b l f = askE b l g := by
  have e : (f < 0 ∨ (l.length : Int) < f) = (g < 0 ∨ (l.length : Int) < g) := propext ⟨fun h => by omega, fun h => by omega⟩
  unfold askE
  simp only [e]
theorem askE_ok {b : Bo} {l : List (Int × Int)} {f : Int} (h : askE b l f = 0) : chkB b = 0 ∧ subsE b.s l = 0 ∧ 0 ≤ f ∧ f ≤ l.length ∧ b.a ≠ 100000 := by
  by_cases h1 : chkB b ≠ 0
  · rw [askE_b h1] at h; exact absurd h h1
  · by_cases h2 : subsE b.s l ≠ 0
    · rw [askE_s h1 h2] at h; exact absurd h h2
    · by_cases h3 : f < 0 ∨ (l.length : Int) < f
      · rw [askE_f h1 h2 h3] at h; exact absurd h (by decide)
      · by_cases h4 : b.a = 100000
        · rw [askE_a h1 h2 h3 h4] at h; exact absurd h (by decide)
        · exact ⟨Classical.not_not.1 h1, Classical.not_not.1 h2, by omega, by omega, h4⟩
/-- with no fakes each open item is right -/
theorem stp_zero (o : List Bool) : ∀ n, (stp o 0 n).2.1 = 0 ∧ ((stp o 0 n).1 = 0 ↔ ∀ i, i < n → o.getD i false = false)
  | 0 => ⟨rfl, ⟨fun _ i hi => by omega, fun _ => rfl⟩⟩
  | n + 1 => by
    obtain ⟨h1, h2⟩ := stp_zero o n
    cases h : o.getD n false with
    | false =>
      rw [stp_no h]
      refine ⟨h1, h2.trans ⟨fun k i hi => ?_, fun k i hi => k i (by omega)⟩⟩
      by_cases e : i = n
      · rw [e]; exact h
      · exact k i (by omega)
    | true =>
      rw [stp_right h (by omega)]
      refine ⟨h1, ⟨fun k => absurd k (by simp), fun k => ?_⟩⟩
      have := k n (by omega)
      rw [h] at this; cases this
def anyB (o : List Bool) (n : Nat) : Bool := (List.range n).any fun i => o.getD i false
theorem anyB_succ (o : List Bool) (n : Nat) : anyB o (n + 1) = (anyB o n || o.getD n false) := by simp [anyB, List.range_succ]
theorem anyB_iff {o : List Bool} {n : Nat} : anyB o n = false ↔ ∀ i, i < n → o.getD i false = false := by
  unfold anyB
  rw [List.any_eq_false]
  exact ⟨fun h i hi => by simpa using h i (List.mem_range.2 hi), fun h i hi => by rw [h i (List.mem_range.1 hi)]; decide⟩
theorem wish_zero (b : Bo) (o : List Bool) : wishB b o 0 = anyB o o.length := by
  obtain ⟨h1, h2⟩ := stp_zero o o.length
  unfold wishB
  rw [decide_eq_true h1, Bool.true_or, Bool.and_true]
  cases h : anyB o o.length with
  | false => rw [decide_eq_true (h2.2 (anyB_iff.1 h))]; rfl
  | true =>
    rw [decide_eq_false fun e => by rw [anyB_iff.2 (h2.1 e)] at h; cases h]; rfl
theorem askd_zero (b : Bo) (o : List Bool) : askd b o 0 = { b with a := b.a + 1 } := by
  obtain ⟨h1, -⟩ := stp_zero o o.length
  unfold askd
  rw [h1]
  exact after_n (by omega)
theorem calm_zero {b : Bo} (h : b.n = 0) : noiseB b = false := by
  unfold noiseB
  rw [h]
  have h1 := Pl.number_lt b.k (BitVec.ofNat 64 (b.a.toNat / 1)) (most := 1#64) (by decide)
  rw [decide_eq_false_iff_not, Classical.not_not]
  have e : (0 : Int).toNat + 1 = 1 := rfl
  rw [e, Nat.mod_one]
  have h2 : (Pl.number b.k (BitVec.ofNat 64 (b.a.toNat / 1)) (BitVec.ofNat 64 1)).toNat < 1 := h1
  have h3 : (BitVec.ofNat 64 0).toNat = 0 := rfl
  omega
/-- a box without noise plays what its coalition knows -/
theorem plays_known {b : Bo} (o : List Bool) (hn : b.n = 0) : plays b o 0 = (anyB o o.length && !decide (0 < b.v ∧ b.v < b.x)) := by
  rw [Bool.eq_iff_iff, plays_iff, wish_zero, askd_zero, Bool.and_eq_true, Bool.not_eq_true', decide_eq_false_iff_not]
  exact ⟨fun ⟨h1, h2, _⟩ => ⟨h1, h2⟩, fun ⟨h1, h2⟩ => ⟨h1, h2, calm_zero hn⟩⟩
theorem plays_never {b : Bo} (o : List Bool) : plays b o (o.length : Int) = false := by
  cases h : plays b o (o.length : Int) with
  | false => rfl
  | true =>
    have := (plays_iff.1 h).1
    rw [wish_len] at this; cases this
theorem opens_getD {b : Bo} {l : List (Int × Int)} {i : Nat} (hi : i < l.length) : (opens b l l.length).getD i false = opnB b.s b.l (qn l i) (qm l i) := opens_get hi
theorem subsE_all {s : Sc} {l : List (Int × Int)} : subsE s l = 0 ↔ l.length ≤ 64 ∧ ∀ i, i < l.length → subB s (qn l i) (qm l i) = true :=
  ⟨fun h => subsE_ok (by omega), fun h => subsE_yes (by omega) h.2⟩
end Go.Proofs.YtoegpalacppllaaGreat.Tr

/- What the end of a trace tells, as the outright statements ask. No program is in sight here. -/
namespace Go.Proofs.YtoegpalacppllaaGreat.Tr
open Hn

/-- the receivers of a list, in order -/
def restL (t : List Int) (n : Nat) : List Int := (rangeI n).filter fun u => t.contains u
theorem mem_restL {t : List Int} {n : Nat} {x : Int} : x ∈ restL t n ↔ (0 ≤ x ∧ x < n) ∧ x ∈ t := by
  rw [restL, List.mem_filter, mem_rangeI, List.contains_iff_mem]
theorem restL_nodup (t : List Int) (n : Nat) : (restL t n).Nodup := List.Pairwise.filter _ (nodup_rangeI n)
theorem len_eq_of {a b : List Int} (ha : a.Nodup) (hb : b.Nodup) (h : ∀ x, x ∈ a ↔ x ∈ b) : a.length = b.length :=
  Nat.le_antisymm (List.Nodup.length_le_of_subset ha fun x hx => (h x).1 hx) (List.Nodup.length_le_of_subset hb fun x hx => (h x).2 hx)
theorem restL_len {t : List Int} {n : Nat} (hn : t.Nodup) (hr : ∀ x ∈ t, 0 ≤ x ∧ x < n) : (restL t n).length = t.length :=
  len_eq_of (restL_nodup t n) hn fun x => ⟨fun h => (mem_restL.1 h).2, fun h => mem_restL.2 ⟨hr x h, h⟩⟩
/-- whether subsets are valid, and no receiver is a member of two -/
def memsB (s : Sc) (l : List (Int × Int)) : Bool := (List.range l.length).all (fun i => schB s && subB s (qn l i) (qm l i)) && decide (allm s l).Nodup
/-- the receivers of some subsets -/
def memsL (s : Sc) (l : List (Int × Int)) : List Int := if memsB s l then restL (allm s l) 64 else []
/-- a trace without an error -/
structure TrOk (b : Bo) (l : List (Int × Int)) (noise : Int) (r : Ts × Nat) : Prop where
  s : schB b.s = true
  box : chkB b = 0
  n0 : 0 ≤ noise
  n8 : noise ≤ 8
  lim : b.a + lim b.s.d noise ≤ 100000
  sub : ∀ i, i < l.length → subB b.s (qn l i) (qm l i) = true
  nd : (allm b.s l).Nodup
  fin : Fin (2 * noise.toNat + 1) b (allm b.s l) r
theorem all_64 {s : Sc} {l : List (Int × Int)} (hs : schB s = true) : ∀ x ∈ allm s l, 0 ≤ x ∧ x < 64 := fun x hx => by
  have h1 := all_lt hx
  have h2 := p2_le (n := s.d.toNat) (by have := schB_iff.1 hs; omega)
  omega
section
variable {b : Bo} {l : List (Int × Int)} {noise : Int} {r : Ts × Nat} (k : TrOk b l noise r)
include k
theorem TrOk.asked : (r.1.a : Int) ≤ boundV b.s noise ∧ boundE b.s noise = 0 := by
  obtain ⟨h1, h2⟩ := bound_ok k.s ⟨k.n0, k.n8⟩
  have hd := schB_iff.1 k.s
  rw [h1, h2, lim_nat (by omega) k.n0]
  have := k.fin.fit
  exact ⟨by omega, rfl⟩
theorem TrOk.nd2 : (allm b.s r.1.l ++ r.1.nm).Nodup := (k.fin.part.perm.nodup_iff).2 k.nd
theorem TrOk.okb : Okb b := by
  obtain ⟨hs, hu, h1, h2, h3, h4, h5, h6, h7, h8, h9, h10⟩ := chkB_ok (show ¬ chkB b ≠ 0 by have := k.box; omega)
  exact ⟨h3, h4, h9, h10⟩
theorem TrOk.s' : r.1.b.s = b.s := k.fin.ask.s
theorem TrOk.subs' : r.1.l.length ≤ 64 ∧ ∀ i, i < r.1.l.length → subB b.s (qn r.1.l i) (qm r.1.l i) = true := by
  have hd := schB_iff.1 k.s
  have h1 := (len_le k.s k.nd k.fin.part).2
  have h2 := p2_le (n := b.s.d.toNat) (by omega)
  exact ⟨by omega, fun i hi => k.fin.part.sub _ (q_mem.2 ⟨i, hi, rfl⟩)⟩
theorem TrOk.before : memsB b.s l = true ∧ memsL b.s l = restL (allm b.s l) 64 := by
  have h : memsB b.s l = true := by
    rw [memsB, Bool.and_eq_true, List.all_eq_true]
    exact ⟨fun i hi => by rw [k.s, k.sub i (List.mem_range.1 hi)]; rfl, decide_eq_true k.nd⟩
  exact ⟨h, if_pos h⟩
theorem TrOk.after : memsB b.s r.1.l = true ∧ memsL b.s r.1.l = restL (allm b.s r.1.l) 64 := by
  have h : memsB b.s r.1.l = true := by
    rw [memsB, Bool.and_eq_true, List.all_eq_true]
    exact ⟨fun i hi => by rw [k.s, k.subs'.2 i (List.mem_range.1 hi)]; rfl, decide_eq_true (List.nodup_append.1 k.nd2).1⟩
  exact ⟨h, if_pos h⟩
theorem TrOk.sum : (restL (allm b.s r.1.l) 64).length + r.1.nm.length = (restL (allm b.s l) 64).length := by
  rw [restL_len (List.nodup_append.1 k.nd2).1 (all_64 k.s), restL_len k.nd (all_64 k.s), ← k.fin.part.perm.length_eq, List.length_append]
theorem TrOk.named {u : Int} (hu : u ∈ r.1.nm) : u ∈ b.l ∧ u ∈ restL (allm b.s l) 64 ∧ u ∉ restL (allm b.s r.1.l) 64 := by
  have h1 := k.fin.part.perm.subset (List.mem_append_right _ hu)
  exact ⟨k.fin.col u hu, mem_restL.2 ⟨all_64 k.s u h1, h1⟩, fun h => (List.nodup_append.1 k.nd2).2.2 u (mem_restL.1 h).2 u hu rfl⟩
/-- the queries behind a trace -/
theorem TrOk.run (j : Nat) : Askd r.1.b (asks r.1.o 0 j r.1.b) j := by
  have := asks_run r.1.o 0 j (k.okb.run k.fin.ask).refl
  rwa [Nat.zero_add] at this
theorem TrOk.quiet (j : Nat) : plays (asks r.1.o 0 j r.1.b) r.1.o 0 = false := by
  cases h : plays (asks r.1.o 0 j r.1.b) r.1.o 0 with
  | false => rfl
  | true =>
    obtain ⟨h1, h2, -⟩ := plays_iff.1 h
    have hr := k.run j
    rw [wish_same hr] at h1
    rcases k.fin.shut with hs | hs
    · rw [h1] at hs; cases hs
    · have hd := dead_mono (hr.ask r.1.o 0) hs
      have := of_decide_eq_true hd
      rw [(hr.ask r.1.o 0).v, ← hr.v] at this
      exact absurd this h2
/-- of an immortal box all are named -/
theorem TrOk.all (hv : b.v = 0) {u : Int} (hu : u ∈ b.l) (hb : u ∈ restL (allm b.s l) 64) : u ∈ r.1.nm := by
  have h1 := (k.fin.all hv).2
  have h2 := (k.fin.part.perm.symm.subset (mem_restL.1 hb).2)
  rcases List.mem_append.1 h2 with h | h
  · exfalso
    obtain ⟨m, hm, hx⟩ := List.mem_flatten.1 h
    obtain ⟨y, hy, rfl⟩ := List.mem_map.1 hm
    obtain ⟨i, hi, e⟩ := q_mem.1 hy
    have hmem := (members_lt hx).2.2
    have ho := mem_opn (s := b.s) hu hmem
    rw [wish_zero, show r.1.o.length = r.1.l.length from opens_len _ _ _] at h1
    have := anyB_iff.1 h1 i hi
    rw [Ts.o, opens_getD hi, k.s', k.fin.ask.l] at this
    rw [e] at ho
    rw [ho] at this; cases this
  · exact h
end
end Go.Proofs.YtoegpalacppllaaGreat.Tr

/- The law: a box plays what its coalition knows. -/
namespace Go.Proofs.YtoegpalacppllaaGreat
open Go.RowKit Pl
open Tr Hn
theorem boC_setN (b : Bo) (t : Sl) : (boC b t).set 8 (.int .i64 0) = boC { b with n := 0 } t := rfl
/-- whether one of the first of a list is in a coalition -/
def hasT (c m : List Int) (n : Nat) : Bool := (List.range n).any fun k => c.contains (at_ m k)
theorem hasT_succ (c m : List Int) (n : Nat) : hasT c m (n + 1) = (hasT c m n || c.contains (at_ m n)) := by simp [hasT, List.range_succ]
theorem dropT2 {b : Base} {W : World} {x : Blk} {L X Y Z : List Blk} (h : Cl b ((((x :: L) ++ X) ++ Y) ++ Z) W) : Cl b ((L ++ X) ++ Y) W := h.sub ((((List.sublist_cons_self x L).append_right X).append_right Y).trans (List.sublist_append_left _ Z))
set_option maxRecDepth 10000 in
set_option maxHeartbeats 2000000 in
/-- headend/headendlaw08.TraceKnown -/
theorem g_TraceKnown (b : Bo) (t : Sl) (ra : Option Addr) (rn rc : Nat) (l : List (Int × Int)) : GivesR Tryz.prog 9 [.agg (boC b t).toArray, .slice ra rn rc].toArray (fun w => RdI w t b.l ∧ RdB w ⟨ra, rn, rc⟩ l) (.bool true) := by
 refine givesR_of Tryz.func9 rfl (bs := [.agg (boC b t).toArray, .slice ra rn rc, undef, undef, undef, undef, undef, undef, undef, undef, undef, undef, undef, undef, undef, undef, undef, undef, undef, undef, undef, undef, undef, undef, undef, undef, undef, undef, undef, undef, undef, undef, undef, undef, undef, undef, undef, undef, undef, undef, undef, undef, undef, undef, undef, undef, undef, undef, undef, undef, undef, undef, undef, undef, undef, undef, undef, undef, undef, undef, undef, undef, undef, undef, undef, undef, undef, undef, undef, undef, undef, undef, undef, undef, undef, undef, undef, undef, undef, undef, undef, undef, undef, undef, undef, undef, undef, undef, undef, undef, undef, undef, undef, undef, undef, undef, undef, undef, undef, undef, undef, undef, undef, undef, undef, undef, undef, undef, undef, undef, undef, undef, undef, undef, undef, undef, undef, undef]) rfl ?_
 intro w hP hW
 have hn := hP.1.len
 have hrn : rn = l.length := hP.2.len
 obtain ⟨b0, hb0⟩ : ∃ c : Bo, c = { b with n := 0 } := ⟨_, rfl⟩
 have f1 : b0.l = b.l := by rw [hb0]
 have f2 : b0.n = 0 := by rw [hb0]
 refine c_seq (c_reg ?_)
 refine xB hW ?_
 intro g1 W hW
 refine bB ?_
 refine l_end (n_then (c_seq (c_reg ?_)))
 refine l_callR hW (Pre := fun _ => True) (fun w _ => g_alive w) en31 trivial rfl rfl rfl rfl ?_
 intro W hW
 refine bB ?_
 refine l_end (n_then (c_seq (c_seq (c_reg ?_))))
 refine l_val (r_fieldAddr 6 Tryz.underlying31 rfl tyC27.size rfl rfl rfl) rfl rfl ?_
 refine dC hW 0 tyC27 ?_
 refine l_val (r_lenSlice Tryz.underlying27 rfl rfl) rfl rfl ?_
 refine l_val (r_gtrN (n := 100) rfl rfl rfl rfl) rfl rfl ?_
 refine l_split ?_ ?_
 ·intro hc1
  replace hc1 := of_decide_eq_true hc1
  refine aB ?_
  refine lN ?_
  refine lN ?_
  refine lN ?_
  refine kB ?_
  refine aB ?_
  refine lN ?_
  refine lN ?_
  refine kB ?_
  refine l_end (n_then ?_)
  refine c_true rfl ?_
  refine c_seq (c_reg ?_)
  refine aB ?_
  refine bB ?_
  refine l_end (n_then (c_ret (r_then ?_)))
  refine ret_tmp (v := .bool true) rfl ?_ ⟨rfl, hW.below⟩
  rfl
 ·intro hc1
  replace hc1 := of_decide_eq_false hc1
  refine aB ?_
  refine l_valG (r_move (v := .slice _ _ _) rfl rfl) (by kernel_rfl) rfl ?_
  refine l_valG (r_lenSlice Tryz.underlying33 rfl rfl) (by kernel_rfl) rfl ?_
  refine l_valG (r_gtrN (n := 64) rfl rfl rfl rfl) (by kernel_rfl) rfl ?_
  refine l_split ?_ ?_
  ·intro hc2
   replace hc2 := of_decide_eq_true hc2
   refine kB ?_
   refine aB ?_
   refine lN ?_
   refine lN ?_
   refine kB ?_
   refine l_end (n_then ?_)
   refine c_true rfl ?_
   refine c_seq (c_reg ?_)
   refine aB ?_
   refine bB ?_
   refine l_end (n_then (c_ret (r_then ?_)))
   refine ret_tmp (v := .bool true) rfl ?_ ⟨rfl, hW.below⟩
   rfl
  ·intro hc2
   replace hc2 := of_decide_eq_false hc2
   have hl : b0.l.length ≤ 100 := by rw [f1]; omega
   have hq : l.length ≤ 100 := by omega
   refine kB ?_
   refine aB ?_
   refine l_valG (r_move (v := .bool _) rfl rfl) (by kernel_rfl) rfl ?_
   refine l_valG (r_not rfl rfl) (by kernel_rfl) rfl ?_
   refine kB ?_
   refine l_end (n_then ?_)
   refine c_false rfl ?_
   refine c_skip (n_then (c_seq (c_reg ?_)))
   refine l_val (r_fieldAddr 8 Tryz.underlying31 rfl tyC3.size rfl rfl rfl) rfl rfl ?_
   refine l_storeC hW 0 tyC3 (v := .int .i64 0) rfl rfl rfl rfl rfl rfl (by rw [boC_len]; decide) rfl ?_
   intro W hW
   replace hW := (show Cl _ [⟨_, (boC b t).set 8 (.int .i64 0), _⟩] _ from hW)
   rw [boC_setN, ← hb0] at hW
   refine l_end (n_then (c_seq (c_reg ?_)))
   refine dA hW 0 tyA31 ?_
   refine aS ?_
   refine l_callX hW (g_Ask b0 t ra rn rc l 0 hl hq) en34 ⟨by rw [f1]; exact hP.1.past hW.below, hP.2.past hW.below⟩ rfl rfl rfl rfl ?_
   rintro _ BA W ⟨sAx, rfl, nA⟩ hW
   refine l_val (r_move (v := .tuple _) rfl rfl) rfl rfl ?_
   refine l_val (r_extract (v := .agg _) rfl rfl rfl) rfl rfl ?_
   refine l_val (r_extract (v := .bool _) rfl rfl rfl) rfl rfl ?_
   refine l_val (r_extract (v := .int _ _) rfl rfl rfl) rfl rfl ?_
   refine l_alloc hW tyZ31 rfl rfl rfl ?_
   intro g2 W hW
   refine sA hW 0 tyA31 ?_
   intro W hW
   refine bB ?_
   refine bI ?_
   refine l_end (n_then (c_seq (c_reg ?_)))
   refine dA hW 1 tyA31 ?_
   refine aS ?_
   refine aS ?_
   refine l_val (r_lenSlice Tryz.underlying33 rfl rfl) rfl rfl ?_
   refine l_callX hW (g_Ask b0 t ra rn rc l (rn : Int) hl hq) en34 ⟨by rw [f1]; exact hP.1.past hW.below, hP.2.past hW.below⟩ rfl rfl rfl rfl ?_
   rintro _ BN W ⟨sN, rfl, nN⟩ hW
   have hEE : askE b0 l (rn : Int) = askE b0 l 0 := askE_fakes (by omega) (by omega)
   have hnv : askP b0 l (rn : Int) = false := by
    by_cases h0 : askE b0 l (rn : Int) = 0
    ·rw [(askX_yes h0).2, hrn]
     have h1 := plays_never (b := b0) (opens b0 l l.length)
     rwa [opens_len] at h1
    ·exact (askX_no h0).2
   rw [hnv]
   refine l_val (r_move (v := .tuple _) rfl rfl) rfl rfl ?_
   refine l_val (r_extract (v := .agg _) rfl rfl rfl) rfl rfl ?_
   refine l_val (r_extract (v := .bool _) rfl rfl rfl) rfl rfl ?_
   refine l_val (r_extract (v := .int _ _) rfl rfl rfl) rfl rfl ?_
   refine l_alloc hW tyZ31 rfl rfl rfl ?_
   intro g3 W hW
   refine sA hW 0 tyA31 ?_
   intro W hW
   refine bB ?_
   refine bI ?_
   refine l_end (n_then (c_seq (c_seq (c_reg ?_))))
   refine aI ?_
   refine l_val (r_neq rfl rfl rfl rfl) rfl rfl ?_
   refine l_split ?_ ?_
   ·intro hc3
    replace hc3 := of_decide_eq_true hc3
    refine aB ?_
    refine lN ?_
    refine lN ?_
    refine kB ?_
    refine l_end (n_then ?_)
    refine c_true rfl ?_
    refine c_seq (c_reg ?_)
    refine aB ?_
    refine aB ?_
    refine gI ?_
    refine gI ?_
    refine l_valG (r_eql (b := true) rfl rfl rfl (decide_eq_true (by omega))) (by kernel_rfl) rfl ?_
    refine kB ?_
    refine bB ?_
    refine l_end (n_then (c_ret (r_then ?_)))
    refine ret_tmp (v := .bool true) rfl ?_ ⟨rfl, hW.below⟩
    rfl
   ·intro hc3
    replace hc3 := of_decide_eq_false hc3
    have he : askE b0 l 0 = 0 := by omega
    obtain ⟨c1, c2, -, -, c5⟩ := askE_ok he
    obtain ⟨hs, hu, -⟩ := chkB_ok (show ¬ chkB b0 ≠ 0 by omega)
    obtain ⟨hll, hsub⟩ := subsE_all.1 c2
    have hp6 := p2_le (n := b0.s.d.toNat) (by have := schB_iff.1 hs; omega)
    have hkp : askP b0 l 0 = (anyB (opens b0 l l.length) l.length && !decide (0 < b0.v ∧ b0.v < b0.x)) := by
     rw [(askX_yes he).2, plays_known _ f2, opens_len]
    refine aB ?_
    refine gI ?_
    refine l_valG (r_neq rfl rfl rfl rfl) (by kernel_rfl) rfl ?_
    refine l_split ?_ ?_
    ·intro hc4
     replace hc4 := of_decide_eq_true hc4
     omega
    ·intro hc4
     replace hc4 := of_decide_eq_false hc4
     refine kB ?_
     refine l_end (n_then ?_)
     refine c_false rfl ?_
     refine c_skip (n_then (c_seq (c_reg ?_)))
     refine bB ?_
     refine l_end (n_then (c_seq (c_seq (c_reg ?_))))
     refine aS ?_
     refine l_val (r_lenSlice Tryz.underlying33 rfl rfl) rfl rfl ?_
     refine aI ?_
     refine l_end (n_then (c_block ?_))
     refine c_loop (fun (z : Nat × Bool) (j : Nat → Value) => [.agg (boC b t).toArray, .slice ra rn rc, .pointer (some ⟨g1, 0, none⟩), j 3, j 4, .bool true, .pointer (some ⟨g2, 0, none⟩), .bool (askP b0 l 0), .int .i64 (askE b0 l 0), .pointer (some ⟨g3, 0, none⟩), .bool false, .int .i64 (askE b0 l (rn : Int)), .bool z.2, j 13, j 14, j 15, j 16, j 17, j 18, j 19, .bool true, .pointer (some ⟨g1, 6, none⟩), .slice t.a t.n t.c, .int .i64 (t.n : Int), .bool false, .bool false, .slice ra rn rc, .int .i64 (rn : Int), .bool false, .bool false, .bool false, .bool true, .bool false, .bool false, j 34, .pointer (some ⟨g1, 8, none⟩), .tuple #[.agg (boC (askX b0 l 0) sAx).toArray, .bool (askP b0 l 0), .int .i64 (askE b0 l 0)], .agg ((boC b0 t)).toArray, .slice ra rn rc, .tuple #[.agg (boC (askX b0 l 0) sAx).toArray, .bool (askP b0 l 0), .int .i64 (askE b0 l 0)], .agg (boC (askX b0 l 0) sAx).toArray, .bool (askP b0 l 0), .int .i64 (askE b0 l 0), .tuple #[.agg (boC (askX b0 l (rn : Int)) sN).toArray, .bool false, .int .i64 (askE b0 l (rn : Int))], .agg ((boC b0 t)).toArray, .slice ra rn rc, .slice ra rn rc, .int .i64 (rn : Int), .tuple #[.agg (boC (askX b0 l (rn : Int)) sN).toArray, .bool false, .int .i64 (askE b0 l (rn : Int))], .agg (boC (askX b0 l (rn : Int)) sN).toArray, .bool false, .int .i64 (askE b0 l (rn : Int)), .int .i64 (askE b0 l 0), .bool false, .bool false, .int .i64 (askE b0 l (rn : Int)), .bool false, .bool false, j 58, j 59, j 60, j 61, j 62, j 63, .slice ra rn rc, .int .i64 (rn : Int), .int .i64 (z.1 : Int), j 67, j 68, j 69, j 70, j 71, j 72, j 73, j 74, j 75, j 76, j 77, j 78, j 79, j 80, j 81, j 82, j 83, j 84, j 85, j 86, j 87, j 88, j 89, j 90, j 91, j 92, j 93, j 94, j 95, j 96, j 97, j 98, j 99, j 100, j 101, j 102, j 103, j 104, j 105, j 106, j 107, j 108, j 109, j 110, j 111, j 112, j 113, j 114, j 115, j 116, j 117]) (fun (z : Nat × Bool) => [⟨g3, boC (askX b0 l (rn : Int)) sN, 31⟩, ⟨g2, boC (askX b0 l 0) sAx, 31⟩, ⟨g1, (boC b0 t), 31⟩] ++ BA ++ BN) (fun (z : Nat × Bool) => z.1 ≤ rn ∧ z.2 = anyB (opens b0 l l.length) z.1) (fun (z : Nat × Bool) => rn - z.1) (0, false) (by kernel_rfl) hW ⟨Nat.zero_le _, rfl⟩ ?_
     intro z j W hx hW
     obtain ⟨hz1, hz2⟩ := hx
     refine c_seq (c_reg ?_)
     refine l_val (r_lssN rfl rfl rfl rfl) rfl rfl ?_
     refine l_split ?_ ?_
     ·intro hc5
      replace hc5 := of_decide_eq_true hc5
      obtain ⟨b1, o1, ha, hc⟩ := hP.2.ptr (by omega)
      refine l_end (n_then (c_seq ?_))
      refine c_true rfl ?_
      refine c_skip (n_then (c_seq (c_block (c_seq (c_reg ?_)))))
      refine l_val (r_indexAddrSlB (n := z.1) Tryz.underlying33 tyA64.size rfl (congrArg (fun a => Value.slice a rn rc) ha) rfl (by omega)) rfl rfl ?_
      refine l_loadF2 hW tyA64 (hc z.1 (by omega)).1 (hc z.1 (by omega)).2 rfl rfl rfl rfl ?_
      refine l_alloc hW tyZ64 rfl rfl rfl ?_
      intro g4 W hW
      refine sA hW 0 tyA64 ?_
      intro W hW
      refine l_end (n_then (c_seq (c_reg ?_)))
      refine l_val (r_fieldAddr 0 Tryz.underlying31 rfl tyA26.size rfl rfl rfl) rfl rfl ?_
      refine l_loadP hW 3 tyA26 rfl rfl rfl rfl rfl (by first | rfl | omega | (simp; done) | (simp; omega)) rfl ?_
      refine dA hW 0 tyA64 ?_
      refine l_callX hW (g_Members b0.s (qn l z.1) (qm l z.1) hs) en43 trivial rfl rfl rfl rfl ?_
      rintro _ B4 W ⟨tM, rfl, nM⟩ hW
      have hsz := hsub z.1 (by omega)
      replace nM := nM hsz
      have hmn := nM.n
      have hml := mem_len b0.s (qn l z.1) (qm l z.1) (p2 b0.s.d.toNat)
      rw [show (if subB b0.s (qn l z.1) (qm l z.1) then (0 : Int) else 31) = 0 from by rw [hsz]; rfl]
      refine l_val (r_move (v := .tuple _) rfl rfl) rfl rfl ?_
      refine l_val (r_extract (v := .slice _ _ _) rfl rfl rfl) rfl rfl ?_
      refine l_val (r_extract (v := .int _ _) rfl rfl rfl) rfl rfl ?_
      refine bS ?_
      refine bI ?_
      refine l_end (n_then (c_seq (c_seq (c_reg ?_))))
      refine aI ?_
      refine l_val (r_neq (b := false) rfl rfl rfl (by decide)) rfl rfl ?_
      refine l_end (n_then ?_)
      refine c_false rfl ?_
      refine c_skip (n_then (c_seq (c_reg ?_)))
      refine aS ?_
      refine l_val (r_lenSlice Tryz.underlying27 rfl rfl) rfl rfl ?_
      refine aI ?_
      refine l_end (n_then (c_block ?_))
      refine c_loop (fun (y : Nat × Bool) (j : Nat → Value) => [.agg (boC b t).toArray, .slice ra rn rc, .pointer (some ⟨g1, 0, none⟩), j 3, j 4, .bool true, .pointer (some ⟨g2, 0, none⟩), .bool (askP b0 l 0), .int .i64 (askE b0 l 0), .pointer (some ⟨g3, 0, none⟩), .bool false, .int .i64 (askE b0 l (rn : Int)), .bool y.2, j 13, .pointer (some ⟨g4, 0, none⟩), .slice tM.a tM.n tM.c, .int .i64 0, j 17, j 18, j 19, .bool true, .pointer (some ⟨g1, 6, none⟩), .slice t.a t.n t.c, .int .i64 (t.n : Int), .bool false, .bool false, .slice ra rn rc, .int .i64 (rn : Int), .bool false, .bool false, .bool false, .bool true, .bool false, .bool false, j 34, .pointer (some ⟨g1, 8, none⟩), .tuple #[.agg (boC (askX b0 l 0) sAx).toArray, .bool (askP b0 l 0), .int .i64 (askE b0 l 0)], .agg ((boC b0 t)).toArray, .slice ra rn rc, .tuple #[.agg (boC (askX b0 l 0) sAx).toArray, .bool (askP b0 l 0), .int .i64 (askE b0 l 0)], .agg (boC (askX b0 l 0) sAx).toArray, .bool (askP b0 l 0), .int .i64 (askE b0 l 0), .tuple #[.agg (boC (askX b0 l (rn : Int)) sN).toArray, .bool false, .int .i64 (askE b0 l (rn : Int))], .agg ((boC b0 t)).toArray, .slice ra rn rc, .slice ra rn rc, .int .i64 (rn : Int), .tuple #[.agg (boC (askX b0 l (rn : Int)) sN).toArray, .bool false, .int .i64 (askE b0 l (rn : Int))], .agg (boC (askX b0 l (rn : Int)) sN).toArray, .bool false, .int .i64 (askE b0 l (rn : Int)), .int .i64 (askE b0 l 0), .bool false, .bool false, .int .i64 (askE b0 l (rn : Int)), .bool false, .bool false, j 58, j 59, j 60, j 61, j 62, j 63, .slice ra rn rc, .int .i64 (rn : Int), .int .i64 (z.1 : Int), .bool true, j 68, .agg [.int .i64 (qn l z.1), .int .i64 (qm l z.1)].toArray, .tuple #[.slice tM.a tM.n tM.c, .int .i64 0], .pointer (some ⟨g1, 0, none⟩), .agg [.int .u8 b0.s.k, .int .i64 b0.s.d, .int .i64 b0.s.g, .int .u64 b0.s.p, .int .u64 b0.s.q, .int .u64 b0.s.r].toArray, .agg ([.int .i64 (qn l z.1), .int .i64 (qm l z.1)]).toArray, .tuple #[.slice tM.a tM.n tM.c, .int .i64 0], .slice tM.a tM.n tM.c, .int .i64 0, .int .i64 0, .bool false, .slice tM.a tM.n tM.c, .int .i64 (tM.n : Int), .int .i64 (y.1 : Int), j 82, j 83, j 84, j 85, j 86, j 87, j 88, j 89, j 90, j 91, j 92, j 93, j 94, j 95, j 96, j 97, j 98, j 99, j 100, j 101, j 102, j 103, j 104, j 105, j 106, j 107, j 108, j 109, j 110, j 111, j 112, j 113, j 114, j 115, j 116, j 117]) (fun (y : Nat × Bool) => [⟨g4, [.int .i64 (qn l z.1), .int .i64 (qm l z.1)], 64⟩, ⟨g3, boC (askX b0 l (rn : Int)) sN, 31⟩, ⟨g2, boC (askX b0 l 0) sAx, 31⟩, ⟨g1, (boC b0 t), 31⟩] ++ BA ++ BN ++ B4) (fun (y : Nat × Bool) => y.1 ≤ tM.n ∧ y.2 = (z.2 || hasT b0.l (membersN b0.s (qn l z.1) (qm l z.1) (p2 b0.s.d.toNat)) y.1)) (fun (y : Nat × Bool) => tM.n - y.1) (0, z.2) (by kernel_rfl) hW ⟨Nat.zero_le _, (Bool.or_false _).symm⟩ ?_
      intro y j W hx hW
      obtain ⟨hy1, hy2⟩ := hx
      refine c_seq (c_reg ?_)
      refine l_val (r_lssN rfl rfl rfl rfl) rfl rfl ?_
      refine l_split ?_ ?_
      ·intro hc6
       replace hc6 := of_decide_eq_true hc6
       obtain ⟨b2, o2, ha, hd⟩ := ((nM.rep.at (show Cl _ ((([_, _, _, _] ++ BA) ++ BN) ++ B4) _ from hW) ((List.sublist_append_right _ B4)))).ptr (by omega)
       refine l_end (n_then (c_seq ?_))
       refine c_true rfl ?_
       refine c_skip (n_then (c_seq (c_block (c_seq (c_reg ?_)))))
       refine l_val (r_indexAddrSl2 (n := y.1) Tryz.underlying27 tyC3.size rfl (congrArg (fun a => Value.slice a tM.n tM.c) ha) rfl (by omega)) rfl rfl ?_
       refine l_loadW tyC3 (v := .int .i64 (at_ (membersN b0.s (qn l z.1) (qm l z.1) (p2 b0.s.d.toNat)) (y.1))) (hd (y.1) (by omega)) rfl rfl rfl rfl ?_
       refine bI ?_
       refine l_end (n_then (c_reg ?_))
       refine aB ?_
       refine l_split ?_ ?_
       ·intro hc7
        refine aB ?_
        refine lN ?_
        refine lN ?_
        refine lN ?_
        refine lN ?_
        refine kB ?_
        refine bB ?_
        refine l_end (n_block (n_then (c_reg ?_)))
        refine l_val (r_addN (n := 1) rfl rfl rfl (by omega)) rfl rfl ?_
        refine aI ?_
        refine l_end (n_then ?_)
        exact loop_next (y.1 + 1, true) (by kernel_rfl) hW ⟨by simp only; omega, by simp only; rw [hasT_succ, ← Bool.or_assoc, ← hy2, hc7]; rfl⟩ (by simp only; omega)
       ·intro hc7
        refine aB ?_
        refine l_valG (r_fieldAddr 6 Tryz.underlying31 rfl tyC27.size rfl rfl rfl) (by kernel_rfl) rfl ?_
        refine dG hW 3 tyC27 ?_
        refine gI ?_
        refine l_callRG hW (g_in t.a t.n t.c b0.l (at_ (membersN b0.s (qn l z.1) (qm l z.1) (p2 b0.s.d.toNat)) y.1) (by omega)) en40 (by rw [f1]; exact hP.1.past hW.below) (by kernel_rfl) rfl rfl rfl ?_
        intro W hW
        refine l_split ?_ ?_
        ·intro hc8
         refine kB ?_
         refine bB ?_
         refine l_end (n_block (n_then (c_reg ?_)))
         refine l_val (r_addN (n := 1) rfl rfl rfl (by omega)) rfl rfl ?_
         refine aI ?_
         refine l_end (n_then ?_)
         exact loop_next (y.1 + 1, true) (by kernel_rfl) hW ⟨by simp only; omega, by simp only; rw [hasT_succ, ← Bool.or_assoc, ← hy2, hc7, hc8]; rfl⟩ (by simp only; omega)
        ·intro hc8
         refine kB ?_
         refine bB ?_
         refine l_end (n_block (n_then (c_reg ?_)))
         refine l_val (r_addN (n := 1) rfl rfl rfl (by omega)) rfl rfl ?_
         refine aI ?_
         refine l_end (n_then ?_)
         exact loop_next (y.1 + 1, false) (by kernel_rfl) hW ⟨by simp only; omega, by simp only; rw [hasT_succ, ← Bool.or_assoc, ← hy2, hc7, hc8]; rfl⟩ (by simp only; omega)
      ·intro hc6
       replace hc6 := of_decide_eq_false hc6
       refine l_end (n_then (c_seq ?_))
       refine c_false rfl ?_
       refine c_exit (x_then (x_then ?_))
       refine x_hit ?_
       refine n_block (n_then (c_reg ?_))
       refine l_val (r_addN (n := 1) rfl rfl rfl (by omega)) rfl rfl ?_
       refine aI ?_
       refine l_end (n_then ?_)
       have hyn : y.1 = (membersN b0.s (qn l z.1) (qm l z.1) (p2 b0.s.d.toNat)).length := by omega
       have hkn : y.2 = anyB (opens b0 l l.length) (z.1 + 1) := by
        rw [hy2, hyn, hz2, anyB_succ, opens_getD (by omega), ← hasP_opn hu]; rfl
       exact loop_next (z.1 + 1, y.2) (by kernel_rfl) (dropT2 (show Cl _ ((((_ :: [_, _, _]) ++ BA) ++ BN) ++ B4) _ from hW)) ⟨by simp only; omega, hkn⟩ (by simp only; omega)
     ·intro hc5
      replace hc5 := of_decide_eq_false hc5
      have hzz : z.2 = anyB (opens b0 l l.length) l.length := by rw [hz2, show z.1 = l.length by omega]
      refine l_end (n_then (c_seq ?_))
      refine c_false rfl ?_
      refine c_exit (x_then (x_then ?_))
      refine x_hit ?_
      refine n_then (c_seq (c_reg ?_))
      refine l_val (r_fieldAddr 9 Tryz.underlying31 rfl tyC3.size rfl rfl rfl) rfl rfl ?_
      refine dC hW 2 tyC3 ?_
      refine l_val (r_gtr rfl rfl rfl rfl) rfl rfl ?_
      refine l_split ?_ ?_
      ·intro hc9
       replace hc9 := of_decide_eq_true hc9
       refine aB ?_
       refine l_valG (r_fieldAddr 27 Tryz.underlying31 rfl tyC3.size rfl rfl rfl) (by kernel_rfl) rfl ?_
       refine dG hW 2 tyC3 ?_
       refine l_valG (r_fieldAddr 9 Tryz.underlying31 rfl tyC3.size rfl rfl rfl) (by kernel_rfl) rfl ?_
       refine dG hW 2 tyC3 ?_
       refine l_valG (r_gtr rfl rfl rfl rfl) (by kernel_rfl) rfl ?_
       refine l_split ?_ ?_
       ·intro hc10
        replace hc10 := of_decide_eq_true hc10
        have hdd : 0 < b0.v ∧ b0.v < b0.x := by omega
        refine kB ?_
        refine bB ?_
        refine l_end (n_then (c_seq (c_reg ?_)))
        refine aB ?_
        refine aB ?_
        refine l_valG (r_move (v := .bool _) rfl rfl) (by kernel_rfl) rfl ?_
        refine l_valG (r_move (v := .bool _) rfl rfl) (by kernel_rfl) rfl ?_
        refine l_split ?_ ?_
        ·intro hc11
         have hpl : askP b0 l 0 = false := by rw [hkp, ← hzz, hc11, decide_eq_true hdd]; rfl
         refine l_valG (r_move (v := .bool _) rfl rfl) (by kernel_rfl) rfl ?_
         refine l_valG (r_move (v := .bool _) rfl rfl) (by kernel_rfl) rfl ?_
         refine l_valG (r_not rfl rfl) (by kernel_rfl) rfl ?_
         refine l_valG (r_pick (v := .bool _) rfl rfl rfl) (by kernel_rfl) rfl ?_
         refine l_valG (r_eqlBool (c := true) Tryz.underlying4 rfl rfl rfl (by rw [hpl]; rfl)) (by kernel_rfl) rfl ?_
         refine kB ?_
         refine aB ?_
         refine l_valG (r_move (v := .bool _) rfl rfl) (by kernel_rfl) rfl ?_
         refine l_valG (r_not rfl rfl) (by kernel_rfl) rfl ?_
         refine kB ?_
         refine bB ?_
         refine l_end (n_then (c_ret ?_))
         refine ret_tmp (v := .bool true) rfl ?_ ⟨rfl, hW.below⟩
         rfl
        ·intro hc11
         have hpl : askP b0 l 0 = false := by rw [hkp, ← hzz, hc11, decide_eq_true hdd]; rfl
         refine l_valG (r_move (v := .bool _) rfl rfl) (by kernel_rfl) rfl ?_
         refine lN ?_
         refine lN ?_
         refine l_valG (r_pick (v := .bool _) rfl rfl rfl) (by kernel_rfl) rfl ?_
         refine l_valG (r_eqlBool (c := true) Tryz.underlying4 rfl rfl rfl (by rw [hpl]; rfl)) (by kernel_rfl) rfl ?_
         refine kB ?_
         refine aB ?_
         refine l_valG (r_move (v := .bool _) rfl rfl) (by kernel_rfl) rfl ?_
         refine l_valG (r_not rfl rfl) (by kernel_rfl) rfl ?_
         refine kB ?_
         refine bB ?_
         refine l_end (n_then (c_ret ?_))
         refine ret_tmp (v := .bool true) rfl ?_ ⟨rfl, hW.below⟩
         rfl
       ·intro hc10
        replace hc10 := of_decide_eq_false hc10
        have hdd : ¬ (0 < b0.v ∧ b0.v < b0.x) := by omega
        refine kB ?_
        refine bB ?_
        refine l_end (n_then (c_seq (c_reg ?_)))
        refine aB ?_
        refine aB ?_
        refine l_valG (r_move (v := .bool _) rfl rfl) (by kernel_rfl) rfl ?_
        refine l_valG (r_move (v := .bool _) rfl rfl) (by kernel_rfl) rfl ?_
        refine l_split ?_ ?_
        ·intro hc12
         have hpl : askP b0 l 0 = true := by rw [hkp, ← hzz, hc12, decide_eq_false hdd]; rfl
         refine l_valG (r_move (v := .bool _) rfl rfl) (by kernel_rfl) rfl ?_
         refine l_valG (r_move (v := .bool _) rfl rfl) (by kernel_rfl) rfl ?_
         refine l_valG (r_not rfl rfl) (by kernel_rfl) rfl ?_
         refine l_valG (r_pick (v := .bool _) rfl rfl rfl) (by kernel_rfl) rfl ?_
         refine l_valG (r_eqlBool (c := true) Tryz.underlying4 rfl rfl rfl (by rw [hpl]; rfl)) (by kernel_rfl) rfl ?_
         refine kB ?_
         refine aB ?_
         refine l_valG (r_move (v := .bool _) rfl rfl) (by kernel_rfl) rfl ?_
         refine l_valG (r_not rfl rfl) (by kernel_rfl) rfl ?_
         refine kB ?_
         refine bB ?_
         refine l_end (n_then (c_ret ?_))
         refine ret_tmp (v := .bool true) rfl ?_ ⟨rfl, hW.below⟩
         rfl
        ·intro hc12
         have hpl : askP b0 l 0 = false := by rw [hkp, ← hzz, hc12, decide_eq_false hdd]; rfl
         refine l_valG (r_move (v := .bool _) rfl rfl) (by kernel_rfl) rfl ?_
         refine lN ?_
         refine lN ?_
         refine l_valG (r_pick (v := .bool _) rfl rfl rfl) (by kernel_rfl) rfl ?_
         refine l_valG (r_eqlBool (c := true) Tryz.underlying4 rfl rfl rfl (by rw [hpl]; rfl)) (by kernel_rfl) rfl ?_
         refine kB ?_
         refine aB ?_
         refine l_valG (r_move (v := .bool _) rfl rfl) (by kernel_rfl) rfl ?_
         refine l_valG (r_not rfl rfl) (by kernel_rfl) rfl ?_
         refine kB ?_
         refine bB ?_
         refine l_end (n_then (c_ret ?_))
         refine ret_tmp (v := .bool true) rfl ?_ ⟨rfl, hW.below⟩
         rfl
      ·intro hc9
       replace hc9 := of_decide_eq_false hc9
       have hdd : ¬ (0 < b0.v ∧ b0.v < b0.x) := by omega
       refine aB ?_
       refine lN ?_
       refine lN ?_
       refine lN ?_
       refine lN ?_
       refine lN ?_
       refine kB ?_
       refine bB ?_
       refine l_end (n_then (c_seq (c_reg ?_)))
       refine aB ?_
       refine aB ?_
       refine l_valG (r_move (v := .bool _) rfl rfl) (by kernel_rfl) rfl ?_
       refine l_valG (r_move (v := .bool _) rfl rfl) (by kernel_rfl) rfl ?_
       refine l_split ?_ ?_
       ·intro hc13
        have hpl : askP b0 l 0 = true := by rw [hkp, ← hzz, hc13, decide_eq_false hdd]; rfl
        refine l_valG (r_move (v := .bool _) rfl rfl) (by kernel_rfl) rfl ?_
        refine l_valG (r_move (v := .bool _) rfl rfl) (by kernel_rfl) rfl ?_
        refine l_valG (r_not rfl rfl) (by kernel_rfl) rfl ?_
        refine l_valG (r_pick (v := .bool _) rfl rfl rfl) (by kernel_rfl) rfl ?_
        refine l_valG (r_eqlBool (c := true) Tryz.underlying4 rfl rfl rfl (by rw [hpl]; rfl)) (by kernel_rfl) rfl ?_
        refine kB ?_
        refine aB ?_
        refine l_valG (r_move (v := .bool _) rfl rfl) (by kernel_rfl) rfl ?_
        refine l_valG (r_not rfl rfl) (by kernel_rfl) rfl ?_
        refine kB ?_
        refine bB ?_
        refine l_end (n_then (c_ret ?_))
        refine ret_tmp (v := .bool true) rfl ?_ ⟨rfl, hW.below⟩
        rfl
       ·intro hc13
        have hpl : askP b0 l 0 = false := by rw [hkp, ← hzz, hc13, decide_eq_false hdd]; rfl
        refine l_valG (r_move (v := .bool _) rfl rfl) (by kernel_rfl) rfl ?_
        refine lN ?_
        refine lN ?_
        refine l_valG (r_pick (v := .bool _) rfl rfl rfl) (by kernel_rfl) rfl ?_
        refine l_valG (r_eqlBool (c := true) Tryz.underlying4 rfl rfl rfl (by rw [hpl]; rfl)) (by kernel_rfl) rfl ?_
        refine kB ?_
        refine aB ?_
        refine l_valG (r_move (v := .bool _) rfl rfl) (by kernel_rfl) rfl ?_
        refine l_valG (r_not rfl rfl) (by kernel_rfl) rfl ?_
        refine kB ?_
        refine bB ?_
        refine l_end (n_then (c_ret ?_))
        refine ret_tmp (v := .bool true) rfl ?_ ⟨rfl, hW.below⟩
        rfl

end Go.Proofs.YtoegpalacppllaaGreat

/- For every box of at most 100 receivers and every list of at most 64 subsets: without noise, with no fakes and while it is not dead, the box plays just if a receiver of its coalition is a member of one of the subsets; with only fakes it never plays; no conditions. -/
namespace Go.Proofs.YtoegpalacppllaaGreat
open Go.RowKit Go.ChangeShapes Go.WideShapes Pl Tr Hn

theorem traceKnown_calls (H : Type) (enc : TypeId × Value → H) (W : World) (base : Nat) (args : Array Value) (ds : List (DataW H)) (ps : List MemPlace) (h : Opened enc Tryz.prog W Tryz.f9 base args ds ps) :
    Calls Tryz.prog 9 args W fun e w' => e = .returned (.bool true) ∧ Below W.heap.size W w' := by
  have r0 := h.args (ts := [31, 33]) (by kernel_rfl)
  generalize hl : args.toList = l0 at r0
  obtain ⟨_, l1, rfl, a0, r1⟩ := r0.cons
  obtain ⟨b, b_s, rfl, b_rd⟩ := a0.box tyBo31
  obtain ⟨_, l2, rfl, a1, r2⟩ := r1.cons
  obtain ⟨l_a, l_n, l_c, l, rfl, l_rd⟩ := a1.subsets Tryz.underlying33 tyQ64
  obtain rfl := r2.nil
  rw [arr_of hl]
  exact g_TraceKnown b b_s l_a l_n l_c l W ⟨b_rd, l_rd⟩
set_option maxRecDepth 100000 in
theorem traceKnown_closed : joinedFacts Tryz.pinned.checked.prog 9 Tryz.f9 Rows.traceKnownSpec Rows.traceKnownRow = true := by kernel_rfl
set_option maxRecDepth 100000 in
theorem traceKnown_holds : Rows.TraceKnownSaid :=
  OpenClaim.holds_of_wide 9 Tryz.f9 rfl rfl rfl rfl rfl rfl rfl ⟨rfl, rfl, rfl, rfl, rfl⟩ rfl rfl rfl rfl rfl (by kernel_rfl) Tryz.func9 traceKnown_closed
    (of_decide_eq_true (by kernel_rfl)) (by unfold Func.isWrapper; first | (rw [if_pos (by decide +kernel)]; kernel_rfl) | (rw [if_neg (by decide +kernel)]; exact ⟨rfl, rfl⟩))
    (fun os started H enc _ => law_lifted (C := Tryz.checked) (s := Rows.traceKnownSpec) (conds := Rows.traceKnownRow.domain) 4 (by kernel_rfl) (by kernel_rfl) Tryz.func9 (by kernel_rfl) (by kernel_rfl) rfl
      (fun H ds hd => match ds, hd with | [_, _], _ => rfl) (by kernel_rfl) Tryz.underlying4 traceKnown_calls os started H enc
      (ChangeSpec.witness6 (enc := enc) (C := Tryz.checked) false ⟨#[], #[.agg #[.int .u8 0, .int .i64 0, .int .i64 0, .int .u64 0, .int .u64 0, .int .u64 0, .slice none 0 0, .int .u8 0, .int .i64 0, .int .i64 0, .int .u8 0, .int .u8 0, .int .u8 0, .int .u8 0, .int .u8 0, .int .u8 0, .int .u8 0, .int .u8 0, .int .u8 0, .int .u8 0, .int .u8 0, .int .u8 0, .int .u8 0, .int .u8 0, .int .u8 0, .int .u8 0, .int .i64 0, .int .i64 0], .slice none 0 0], []⟩ 8 (by kernel_rfl) (by kernel_rfl) (by kernel_rfl) (by kernel_rfl)))
#print axioms traceKnown_holds
end Go.Proofs.YtoegpalacppllaaGreat

