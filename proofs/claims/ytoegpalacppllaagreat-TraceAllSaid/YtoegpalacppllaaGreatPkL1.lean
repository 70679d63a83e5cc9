/- For every immortal box of at most 100 receivers, every list of at most 64 subsets and every noise that is at least the box's: a trace names all of the coalition who are members of the partition, and nobody else; no conditions. -/
import Derived.Test.YtoegpalacppllaaGreatPkB5
import Derived.Test.YtoegpalacppllaaGreatProg
import Derived.ChangeSlices
import Derived.ChangeMaps5
import Derived.Lib.SlicesCompact
import Derived.Lib.RowBridge
import Derived.Test.YtoegpalacppllaaGreatRows
/- Plain laws of lists and hunts, in the words of loops. No program is in sight here. -/
namespace Go.Proofs.YtoegpalacppllaaGreat.Hn

theorem has_at {l : LI} {i : Nat} {x : Int} (h : i < l.length) (e : at_ l i = x) : l.contains x = true := by
  subst e; simpa using at_mem h
theorem has_no {l : LI} {n : Nat} {x : Int} (hn : n = l.length) (h : ∀ k, k < n → at_ l k ≠ x) : l.contains x = false := by
  subst hn
  rw [← Bool.not_eq_true, List.contains_iff_mem]
  intro hm
  obtain ⟨i, hi, e⟩ := mem_at hm
  exact h i hi e
end Go.Proofs.YtoegpalacppllaaGreat.Hn

/- Closed facts on types and functions of the program, written by a program. -/
namespace Go.Proofs.YtoegpalacppllaaGreat
open Pl
abbrev z160 : List Value := [.bool false, .bool false, .bool false, .bool false, .bool false, .bool false, .bool false, .bool false, .bool false, .bool false, .bool false, .bool false, .bool false, .bool false, .bool false, .bool false, .bool false, .bool false, .bool false, .bool false, .bool false, .bool false, .bool false, .bool false, .bool false, .bool false, .bool false, .bool false, .bool false, .bool false, .bool false, .bool false, .bool false, .bool false, .bool false, .bool false, .bool false, .bool false, .bool false, .bool false, .bool false, .bool false, .bool false, .bool false, .bool false, .bool false, .bool false, .bool false, .bool false, .bool false, .bool false, .bool false, .bool false, .bool false, .bool false, .bool false, .bool false, .bool false, .bool false, .bool false, .bool false, .bool false, .bool false, .bool false]
theorem tyZ160 : TyZ Tryz.prog 160 (.agg z160.toArray) := fun _ => by kernel_rfl
theorem en31 : Enters Tryz.prog 31 := enters_of Tryz.func31 (by kernel_rfl) rfl
theorem en40 : Enters Tryz.prog 40 := enters_of Tryz.func40 (by kernel_rfl) rfl
theorem en45 : Enters Tryz.prog 45 := enters_of Tryz.func45 (by kernel_rfl) rfl
end Go.Proofs.YtoegpalacppllaaGreat

/- What a law's arguments are: opened by their types. -/
namespace Go.Proofs.YtoegpalacppllaaGreat
open Go.RowKit Go.ChangeShapes Go.WideShapes Pl

section
variable {P : Program} {W : World}

theorem arr_of {args : Array Value} {l : List Value} (h : args.toList = l) : args = l.toArray := by subst h; simp

end
end Go.Proofs.YtoegpalacppllaaGreat

/- Plain laws of subsets that are split, and of partitions. No program is in sight here. -/
namespace Go.Proofs.YtoegpalacppllaaGreat.Tr
open Hn

theorem members_mem {s : Sc} {v w : Int} {n u : Nat} (hu : u < n) (h : memB s v w u = true) : (u : Int) ∈ membersN s v w n := List.mem_map.2 ⟨u, List.mem_filter.2 ⟨List.mem_range.2 hu, h⟩, rfl⟩
end Go.Proofs.YtoegpalacppllaaGreat.Tr

/- Partitions: receivers that are in two subsets; lists in which neighbours are equal. No program is in sight here. -/
namespace Go.Proofs.YtoegpalacppllaaGreat.Tr
open Hn

theorem take_q {l : List (Int × Int)} {i : Nat} (hi : i < l.length) : l.take (i + 1) = l.take i ++ [(qn l i, qm l i)] := by
  have e : (qn l i, qm l i) = l[i] := by simp [qn, qm, List.getD_eq_getElem?_getD, hi]
  rw [List.take_succ_eq_append_getElem hi, e]
end Go.Proofs.YtoegpalacppllaaGreat.Tr

/- Whether a number is in a list; subsets of a scheme that is not valid. -/
namespace Go.Proofs.YtoegpalacppllaaGreat
open Go.RowKit Pl
open Tr Hn
set_option maxRecDepth 10000 in
/-- headend/headendlaw08.in -/
theorem g_in (aa : Option Addr) (an ac : Nat) (l : List Int) (x : Int) (hl : l.length ≤ 4294967296) : GivesR Tryz.prog 40 [.slice aa an ac, .int .i64 x].toArray (fun w => RdI w ⟨aa, an, ac⟩ l) (.bool (l.contains x)) := by
 refine givesR_of Tryz.func40 rfl (bs := [.slice aa an ac, .int .i64 x, undef, undef, undef, undef, undef, undef, undef, undef, undef, undef, undef, undef, undef, undef, undef, undef]) rfl ?_
 intro w hP hW
 have hn : an = l.length := hP.len
 refine c_seq (c_reg ?_)
 refine bB ?_
 refine l_end (n_then (c_seq (c_seq (c_reg ?_))))
 refine aS ?_
 refine l_val (r_lenSlice Tryz.underlying27 rfl rfl) rfl rfl ?_
 refine aI ?_
 refine l_end (n_then (c_block ?_))
 refine c_loop (fun (i : Nat) (j : Nat → Value) => [.slice aa an ac, .int .i64 x, j 2, j 3, j 4, j 5, .slice aa an ac, .int .i64 (an : Int), .int .i64 (i : Int), j 9, j 10, j 11, j 12, j 13, j 14, j 15, j 16, j 17]) (fun (i : Nat) => []) (fun (i : Nat) => i ≤ an ∧ ∀ k, k < i → at_ l k ≠ x) (fun (i : Nat) => an - i) 0 (by kernel_rfl) hW ⟨by omega, all_zero⟩ ?_
 intro i j W hx hW
 refine c_seq (c_reg ?_)
 refine l_val (r_lssN rfl rfl rfl rfl) rfl rfl ?_
 refine l_split ?_ ?_
 ·intro hc1
  replace hc1 := of_decide_eq_true hc1
  obtain ⟨b0, o0, ha, hc⟩ := hP.ptr (by omega)
  simp only at ha
  subst ha
  refine l_end (n_then (c_seq ?_))
  refine c_true rfl ?_
  refine c_skip (n_then (c_seq (c_block (c_seq (c_reg ?_)))))
  refine aI ?_
  refine bI ?_
  refine l_end (n_then (c_seq (c_reg ?_)))
  refine aS ?_
  refine aI ?_
  refine l_val (r_indexAddrSl2 (n := i) Tryz.underlying27 tyC3.size rfl rfl rfl (by omega)) rfl rfl ?_
  refine l_loadF hW tyC3 (v := .int .i64 (at_ l (i))) (hc (i) (by omega)) rfl rfl rfl rfl ?_
  refine aI ?_
  refine l_val (r_eql rfl rfl rfl rfl) rfl rfl ?_
  refine l_split ?_ ?_
  ·intro hc2
   replace hc2 := of_decide_eq_true hc2
   refine l_end (n_then ?_)
   refine c_true rfl ?_
   refine c_seq (c_reg ?_)
   refine bB ?_
   refine l_end (n_then (c_ret (r_block (r_then (r_then (r_block (r_then ?_)))))))
   refine ret_tmp (v := .bool (l.contains x)) rfl ?_ ⟨rfl, hW.below⟩
   rw [has_at (by omega) hc2]; rfl
  ·intro hc2
   replace hc2 := of_decide_eq_false hc2
   refine l_end (n_then ?_)
   refine c_false rfl ?_
   refine c_skip (n_block (n_then (c_reg ?_)))
   refine l_val (r_addN (n := 1) rfl rfl rfl (by omega)) rfl rfl ?_
   refine aI ?_
   refine l_end (n_then ?_)
   exact loop_next (i + 1) (by kernel_rfl) hW ⟨by omega, all_step hx.2 hc2⟩ (by omega)
 ·intro hc1
  replace hc1 := of_decide_eq_false hc1
  refine l_end (n_then (c_seq ?_))
  refine c_false rfl ?_
  refine c_exit (x_then (x_then ?_))
  refine x_hit ?_
  refine n_then (c_seq (c_reg ?_))
  refine bB ?_
  refine l_end (n_then (c_ret ?_))
  refine ret_tmp (v := .bool (l.contains x)) rfl ?_ ⟨rfl, hW.below⟩
  rw [has_no hn fun k hk => hx.2 k (by omega)]; rfl

set_option maxRecDepth 10000 in
/-- headend/cover.enter -/
theorem g_enterX (s : Sc) (ra : Option Addr) (rn rc : Nat) (l : List (Int × Int)) (hs : schB s = false) : GivesR Tryz.prog 51 [.agg [.int .u8 s.k, .int .i64 s.d, .int .i64 s.g, .int .u64 s.p, .int .u64 s.q, .int .u64 s.r].toArray, .slice ra rn rc].toArray (fun w => RdB w ⟨ra, rn, rc⟩ l) (.tuple #[.agg ([.int .u8 0, .int .i64 0, .int .i64 0]).toArray, .int .i64 30]) := by
 refine givesR_of Tryz.func51 rfl (bs := [.agg [.int .u8 s.k, .int .i64 s.d, .int .i64 s.g, .int .u64 s.p, .int .u64 s.q, .int .u64 s.r].toArray, .slice ra rn rc, undef, undef, undef, undef, undef, undef, undef, undef, undef, undef, undef, undef, undef, undef, undef, undef, undef, undef, undef, undef, undef, undef, undef, undef, undef, undef, undef, undef, undef]) rfl ?_
 intro w hP hW
 refine c_seq (c_reg ?_)
 refine xB hW ?_
 intro g1 W hW
 refine l_alloc hW tyZ106 rfl rfl rfl ?_
 intro g2 W hW
 refine bI ?_
 refine l_end (n_then (c_seq (c_reg ?_)))
 refine dA hW 1 tyA26 ?_
 refine l_call hW (g_treeOf s) en98 rfl rfl rfl rfl ?_
 intro W hW
 rw [treeC_no hs, hs]
 refine l_val (r_move (v := .tuple _) rfl rfl) rfl rfl ?_
 refine l_val (r_extract (v := .agg _) rfl rfl rfl) rfl rfl ?_
 refine l_val (r_extract (v := .bool _) rfl rfl rfl) rfl rfl ?_
 refine l_alloc hW tyZ106 rfl rfl rfl ?_
 intro g3 W hW
 refine sA hW 0 tyA106 ?_
 intro W hW
 refine bB ?_
 refine l_end (n_then (c_seq (c_seq (c_reg ?_))))
 refine aB ?_
 refine l_val (r_not rfl rfl) rfl rfl ?_
 refine l_end (n_then ?_)
 refine c_true rfl ?_
 refine c_seq (c_reg ?_)
 refine l_val (r_build (ps := []) (bld106_) rfl rfl) rfl rfl ?_
 refine sA hW 1 tyA106 ?_
 intro W hW
 refine bI ?_
 refine l_end (n_then (c_ret (r_then ?_)))
 refine rT hW 1 tyA106 ?_
 exact ⟨rfl, hW.below⟩

set_option maxRecDepth 10000 in
/-- headend/cover.Members -/
theorem g_MembersX (s : Sc) (v x : Int) (hs : schB s = false) : GivesX Tryz.prog 43 [.agg [.int .u8 s.k, .int .i64 s.d, .int .i64 s.g, .int .u64 s.p, .int .u64 s.q, .int .u64 s.r].toArray, .agg [.int .i64 v, .int .i64 x].toArray].toArray (fun _ => True) (fun u Bs => u = .tuple #[.slice none 0 0, .int .i64 30] ∧ Bs = []) := by
 refine givesX_of Tryz.func43 rfl (bs := [.agg [.int .u8 s.k, .int .i64 s.d, .int .i64 s.g, .int .u64 s.p, .int .u64 s.q, .int .u64 s.r].toArray, .agg [.int .i64 v, .int .i64 x].toArray, undef, undef, undef, undef, undef, undef, undef, undef, undef, undef, undef, undef, undef, undef, undef, undef, undef, undef, undef]) rfl ?_
 intro w hP hW
 refine c_seq (c_reg ?_)
 refine xB hW ?_
 intro g1 W hW
 refine xB hW ?_
 intro g2 W hW
 refine bS ?_
 refine bI ?_
 refine l_end (n_then (c_seq (c_reg ?_)))
 refine dA hW 1 tyA26 ?_
 refine dA hW 0 tyA64 ?_
 refine l_buildSliceF hW (bsl33_1_0 _ _) rfl rfl rfl rfl ?_
 intro gb W hW
 refine l_callR hW (g_enterX s (some ⟨gb, 0, none⟩) 1 1 [(v, x)] hs) en51 (RdB.one hW 0 rfl) rfl rfl rfl rfl ?_
 intro W hW
 refine l_val (r_move (v := .tuple _) rfl rfl) rfl rfl ?_
 refine l_val (r_extract (v := .agg _) rfl rfl rfl) rfl rfl ?_
 refine l_val (r_extract (v := .int _ _) rfl rfl rfl) rfl rfl ?_
 refine l_alloc hW tyZ106 rfl rfl rfl ?_
 intro g3 W hW
 refine sA hW 0 tyA106 ?_
 intro W hW
 refine bI ?_
 refine l_end (n_then (c_seq (c_seq (c_reg ?_))))
 refine aI ?_
 refine l_val (r_neq (b := true) rfl rfl rfl (by decide)) rfl rfl ?_
 refine l_end (n_then ?_)
 refine c_true rfl ?_
 refine c_seq (c_reg ?_)
 refine aI ?_
 refine bS ?_
 refine bI ?_
 refine l_end (n_then (c_ret (r_then ?_)))
 refine ret_tmp2 rfl rfl rfl ?_
 exact ⟨_, [], rfl, ⟨rfl, rfl⟩, hW.sub (List.nil_sublist _)⟩

end Go.Proofs.YtoegpalacppllaaGreat

/- Plain laws of the cipher's round trips. No program is in sight here. -/
namespace Go.Proofs.YtoegpalacppllaaGreat.Pl
theorem number_lt (k : Kw) (n : W64) {most : W64} (h : ¬ most = 0#64) : (number k n most).toNat < most.toNat := by
  unfold number
  rw [if_neg h, BitVec.toNat_umod]
  refine Nat.mod_lt _ (Nat.pos_of_ne_zero fun e => h (BitVec.eq_of_toNat_eq (by simpa using e)))
end Go.Proofs.YtoegpalacppllaaGreat.Pl

/- What a trace proves: noise, deadness, who is named. No program is in sight here. -/
namespace Go.Proofs.YtoegpalacppllaaGreat.Tr
open Hn

/-- of so many queries one is not hidden by noise -/
theorem noise_calm {b : Bo} (n0 : 0 ≤ b.n) (n8 : b.n ≤ 8) (a0 : 0 ≤ b.a) : ∃ j : Nat, (j : Int) < 2 * b.n + 1 ∧ noiseB { b with a := b.a + (j : Int) } = false := by
  obtain ⟨B, hB⟩ : ∃ B, B = b.n.toNat + 1 := ⟨_, rfl⟩
  obtain ⟨q, hq⟩ : ∃ q, q = (b.a.toNat + B - 1) / B := ⟨_, rfl⟩
  have h1 := Nat.div_add_mod (b.a.toNat + B - 1) B
  have h2 := Nat.mod_lt (b.a.toNat + B - 1) (show 0 < B by omega)
  rw [← hq] at h1
  have hBn : (BitVec.ofNat 64 B).toNat = B := by rw [BitVec.toNat_ofNat]; omega
  obtain ⟨r, hr⟩ : ∃ r, r = (Pl.number b.k (BitVec.ofNat 64 q) (BitVec.ofNat 64 B)).toNat := ⟨_, rfl⟩
  have hlt : r < B := by
    have := Pl.number_lt b.k (BitVec.ofNat 64 q) (most := BitVec.ofNat 64 B) (fun e => by rw [e] at hBn; simp at hBn; omega)
    omega
  refine ⟨B * q + r - b.a.toNat, by omega, ?_⟩
  have e : (b.a + ((B * q + r - b.a.toNat : Nat) : Int)).toNat = B * q + r := by omega
  have e1 : (B * q + r) / B = q := by rw [Nat.mul_add_div (by omega), Nat.div_eq_of_lt hlt]; omega
  have e2 : (B * q + r) % B = r := by rw [Nat.mul_add_mod, Nat.mod_eq_of_lt hlt]
  unfold noiseB
  simp only [e, ← hB, e1, e2]
  rw [decide_eq_false_iff_not, Classical.not_not, ← hr, BitVec.toNat_ofNat]
  omega
theorem noise_congr {b c : Bo} (hk : b.k = c.k) (hn : b.n = c.n) (ha : b.a = c.a) : noiseB b = noiseB c := by unfold noiseB; rw [hk, hn, ha]
/-- a box after so many queries of the same kind -/
def asks (o : List Bool) (f : Int) : Nat → Bo → Bo
  | 0, b => b
  | j + 1, b => asks o f j (askd b o f)
theorem asks_succ (o : List Bool) (f : Int) : ∀ (j : Nat) (b : Bo), asks o f (j + 1) b = askd (asks o f j b) o f
  | 0, _ => rfl
  | j + 1, b => asks_succ o f j (askd b o f)
theorem asks_add (o : List Bool) (f : Int) (i : Nat) : ∀ (j : Nat) (b : Bo), asks o f (j + i) b = asks o f i (asks o f j b)
  | 0, b => by rw [Nat.zero_add]; rfl
  | j + 1, b => by rw [show j + 1 + i = (j + i) + 1 by omega]; exact asks_add o f i j (askd b o f)
theorem asks_run {b0 : Bo} (o : List Bool) (f : Int) : ∀ (j : Nat) {b : Bo} {c : Nat}, Askd b0 b c → Askd b0 (asks o f j b) (c + j)
  | 0, b, c, h => h
  | j + 1, b, c, h => by
    rw [show c + (j + 1) = c + 1 + j by omega]
    exact asks_run o f j (h.ask o f)
theorem seen_false {o : List Bool} {f : Int} : ∀ {k : Nat} {b : Bo} {n : Nat}, (seenN o f k b n).2.1 = false → (seenN o f k b n).1 = asks o f k b ∧ ∀ j, j < k → plays (asks o f j b) o f = false
  | 0, _, _, _ => ⟨rfl, fun j hj => by omega⟩
  | k + 1, b, n, h => by
    cases hp : plays b o f with
    | true => rw [seenN_yes hp] at h; cases h
    | false =>
      rw [seenN_no hp] at h ⊢
      obtain ⟨h1, h2⟩ := seen_false h
      refine ⟨h1, fun j hj => ?_⟩
      cases j with
      | zero => exact hp
      | succ j => exact h2 j (by omega)
theorem seen_true {o : List Bool} {f : Int} : ∀ {k : Nat} {b : Bo} {n : Nat}, (seenN o f k b n).2.1 = true → ∃ j, j < k ∧ plays (asks o f j b) o f = true ∧ (seenN o f k b n).1 = asks o f (j + 1) b
  | 0, b, n, h => by cases h
  | k + 1, b, n, h => by
    cases hp : plays b o f with
    | true => rw [seenN_yes hp]; exact ⟨0, by omega, hp, rfl⟩
    | false =>
      rw [seenN_no hp] at h ⊢
      obtain ⟨j, h1, h2, h3⟩ := seen_true h
      exact ⟨j + 1, by omega, h2, h3⟩
/-- whether a box would play, but for noise and death -/
def wishB (b : Bo) (o : List Bool) (f : Int) : Bool := !decide ((stp o f o.length).1 = 0) && (decide ((stp o f o.length).2.1 = 0) || playB b (stp o f o.length).1 (stp o f o.length).2.1 (stp o f o.length).2.2)
def deadB (b : Bo) : Bool := decide (0 < b.v ∧ b.v < b.x)
theorem plays_iff {b : Bo} {o : List Bool} {f : Int} : plays b o f = true ↔ wishB b o f = true ∧ ¬ (0 < b.v ∧ b.v < (askd b o f).x) ∧ noiseB b = false := by
  unfold plays askW wishB
  rw [show (after b (stp o f o.length).1 (stp o f o.length).2.1) = askd b o f from rfl]
  generalize stp o f o.length = s
  constructor
  · intro h
    split at h
    · cases h
    · next hn =>
      have h1 : ¬ s.1 = 0 := fun e => hn (.inl e)
      have h2 : ¬ (0 < b.v ∧ b.v < (askd b o f).x) := fun e => hn (.inr (.inl e))
      have h3 : noiseB b = false := by rw [← Bool.not_eq_true]; exact fun e => hn (.inr (.inr e))
      refine ⟨?_, h2, h3⟩
      split at h
      · next hw => simp [h1, hw]
      · simp [h1, h]
  · rintro ⟨h1, h2, h3⟩
    simp only [Bool.and_eq_true, Bool.not_eq_true', decide_eq_false_iff_not, Bool.or_eq_true, decide_eq_true_eq] at h1
    rw [if_neg (by rintro (h | h | h); exact h1.1 h; exact h2 h; rw [h3] at h; cases h)]
    split
    · rfl
    · next hw => exact h1.2.resolve_left hw
theorem wish_same {b0 b : Bo} {c : Nat} (h : Askd b0 b c) (o : List Bool) (f : Int) : wishB b o f = wishB b0 o f := by
  unfold wishB playB oddB; rw [h.m, h.k]
theorem dead_mono {b0 b : Bo} {c : Nat} (h : Askd b0 b c) (hd : deadB b0 = true) : deadB b = true := by
  unfold deadB at *
  have h1 := of_decide_eq_true hd
  have := h.v
  have := h.x2
  exact decide_eq_true (by omega)
/-- what holds of a box whenever it is asked -/
structure Okb (b : Bo) : Prop where
  n0 : 0 ≤ b.n
  n8 : b.n ≤ 8
  x0 : 0 ≤ b.x
  x1 : b.x ≤ b.a
theorem Okb.run {b0 b : Bo} {c : Nat} (k : Okb b0) (h : Askd b0 b c) : Okb b := ⟨by rw [h.n]; exact k.n0, by rw [h.n]; exact k.n8, h.x0, h.x1⟩
theorem Okb.refl {b : Bo} (k : Okb b) : Askd b b 0 := Askd.refl k.x0 k.x1
theorem not_seen {b : Bo} {o : List Bool} {f : Int} {N n : Nat} (k : Okb b) (hN : 2 * b.n + 1 ≤ (N : Int)) (h : (seenN o f N b n).2.1 = false) : wishB b o f = false ∨ deadB (seenN o f N b n).1 = true := by
  have := k.x0
  have := k.x1
  obtain ⟨j, hj, hc⟩ := noise_calm k.n0 k.n8 (by omega)
  obtain ⟨h1, h2⟩ := seen_false h
  have hr := asks_run o f j k.refl
  have hp := h2 j (by omega)
  rw [h1]
  cases hw : wishB b o f with
  | false => exact .inl rfl
  | true =>
    refine .inr ?_
    have hra : (asks o f j b).a = b.a + (j : Int) := by
      have := hr.a
      rw [Nat.zero_add] at this
      exact this
    have hno : noiseB (asks o f j b) = false := (noise_congr (c := { b with a := b.a + (j : Int) }) hr.k hr.n hra).trans hc
    have hd : 0 < (asks o f j b).v ∧ (asks o f j b).v < (askd (asks o f j b) o f).x := by
      apply Classical.byContradiction
      intro hn
      have : plays (asks o f j b) o f = true := plays_iff.2 ⟨by rw [wish_same hr]; exact hw, hn, hno⟩
      rw [this] at hp; cases hp
    have hd2 : deadB (asks o f (j + 1) b) = true := by
      rw [asks_succ]
      have hv := (hr.ask o f).v
      unfold deadB
      rw [hv, ← hr.v]
      exact decide_eq_true hd
    have hr2 := asks_run o f (j + 1) k.refl
    have hk2 := k.run hr2
    have := asks_run o f (N - (j + 1)) hk2.refl
    rw [← asks_add, show j + 1 + (N - (j + 1)) = N by omega] at this
    exact dead_mono this hd2
theorem seen_yes {b : Bo} {o : List Bool} {f : Int} {N n : Nat} (k : Okb b) (h : (seenN o f N b n).2.1 = true) : wishB b o f = true ∧ deadB (seenN o f N b n).1 = false := by
  obtain ⟨j, hj, hp, hs⟩ := seen_true h
  have hr := asks_run o f j k.refl
  obtain ⟨h1, h2, h3⟩ := plays_iff.1 hp
  refine ⟨by rw [← wish_same hr]; exact h1, ?_⟩
  rw [hs, asks_succ]
  unfold deadB
  rw [(hr.ask o f).v, ← hr.v]
  exact decide_eq_false h2
theorem stp_skip {o : List Bool} {i : Nat} (h : o.getD i false = false) : ∀ n, stp o (i : Int) n = stp o ((i + 1 : Nat) : Int) n
  | 0 => rfl
  | n + 1 => by
    have ih := stp_skip h n
    by_cases e : n = i
    · subst e; rw [stp_no h, stp_no h, ih]
    · rw [stp, stp, ih]
      have : ((n : Int) < (i : Int)) = ((n : Int) < ((i + 1 : Nat) : Int)) := by apply propext; omega
      simp only [this]
theorem stp_all (o : List Bool) (f : Int) : ∀ n : Nat, (n : Int) ≤ f → (stp o f n).1 = 0
  | 0, _ => rfl
  | n + 1, h => by
    have ih := stp_all o f n (by omega)
    rw [stp, if_pos (show (n : Int) < f by omega)]
    split <;> exact ih
theorem wish_len (b : Bo) (o : List Bool) : wishB b o (o.length : Int) = false := by
  unfold wishB
  rw [stp_all o _ o.length (Int.le_refl _)]; rfl
theorem wish_skip {b : Bo} {o : List Bool} {i : Nat} (h1 : wishB b o (i : Int) = true) (h2 : wishB b o ((i + 1 : Nat) : Int) = false) : o.getD i false = true := by
  rw [← Bool.not_eq_false]
  intro h
  unfold wishB at h1 h2
  rw [stp_skip h] at h1
  rw [h1] at h2; cases h2
/-- the search finds an item that is open, if the box is not dead then -/
theorem search_open {o : List Bool} {N : Nat} : ∀ {k low high : Nat} {b : Bo} {a : Nat}, Okb b → 2 * b.n + 1 ≤ (N : Int) → high - low ≤ k → low < high → wishB b o (low : Int) = true → (wishB b o (high : Int) = false ∨ deadB b = true) →
    ∃ c, Askd b (searchN o N k low high b a).1 c ∧ wishB b o ((searchN o N k low high b a).2.1 : Int) = true ∧ (wishB b o (((searchN o N k low high b a).2.1 + 1 : Nat) : Int) = false ∨ deadB (searchN o N k low high b a).1 = true)
  | 0, low, high, b, a, _, _, h, h1, _, _ => by omega
  | k + 1, low, high, b, a, hb, hN, h, h1, hl, hh => by
    by_cases he : high - low ≤ 1
    · rw [searchN_end he]
      refine ⟨0, hb.refl, hl, ?_⟩
      rwa [show low + 1 = high by omega]
    · obtain ⟨j, -, j2, -⟩ := seenN_run o (((low + high) / 2 : Nat) : Int) N a hb.refl
      rw [Nat.zero_add] at j2
      have hy := seen_yes (o := o) (f := (((low + high) / 2 : Nat) : Int)) (N := N) (n := a) hb
      have hn := not_seen (o := o) (f := (((low + high) / 2 : Nat) : Int)) (N := N) (n := a) hb hN
      rcases hs : seenN o (((low + high) / 2 : Nat) : Int) N b a with ⟨x, p, n⟩
      rw [hs] at j2 hy hn
      simp only at j2 hy hn
      have hN2 : 2 * x.n + 1 ≤ (N : Int) := by rw [j2.n]; exact hN
      cases p with
      | true =>
        rw [searchN_yes he hs]
        obtain ⟨c, c1, c2, c3⟩ := search_open (k := k) (low := (low + high) / 2) (high := high) (a := n) (hb.run j2) hN2 (by omega) (by omega) (by rw [wish_same j2]; exact (hy rfl).1) (hh.imp (fun e => by rw [wish_same j2]; exact e) (dead_mono j2))
        rw [wish_same j2] at c2 c3
        exact ⟨j + c, j2.trans c1, c2, c3⟩
      | false =>
        rw [searchN_no he hs]
        obtain ⟨c, c1, c2, c3⟩ := search_open (k := k) (low := low) (high := (low + high) / 2) (a := n) (hb.run j2) hN2 (by omega) (by omega) (by rw [wish_same j2]; exact hl) ((hn rfl).imp (fun e => by rw [wish_same j2]; exact e) id)
        rw [wish_same j2] at c2 c3
        exact ⟨j + c, j2.trans c1, c2, c3⟩
/-- what is open to a box does not change -/
theorem opens_same {b0 b : Bo} {c : Nat} (h : Askd b0 b c) (l : List (Int × Int)) (n : Nat) : opens b l n = opens b0 l n := by
  unfold opens; rw [h.s, h.l]
theorem opens_get {b : Bo} {l : List (Int × Int)} {i n : Nat} (hi : i < n) : (opens b l n).getD i false = opnB b.s b.l (qn l i) (qm l i) := by
  unfold opens; simp [List.getD_eq_getElem?_getD, hi]
theorem opn_mem {s : Sc} {c : List Int} {v w : Int} (h : opnB s c v w = true) : ∃ u ∈ c, memB s v w u.toNat = true := by
  obtain ⟨i, hi, h⟩ := List.any_eq_true.1 h
  have hi := List.mem_range.1 hi
  exact ⟨at_ c i, mem_at.2 ⟨i, hi, rfl⟩, h⟩
theorem mem_opn {s : Sc} {c : List Int} {v w : Int} {u : Int} (hu : u ∈ c) (h : memB s v w u.toNat = true) : opnB s c v w = true := by
  obtain ⟨i, hi, rfl⟩ := mem_at.1 hu
  exact List.any_eq_true.2 ⟨i, List.mem_range.2 hi, h⟩
/-- the end of a trace -/
structure Fin (N : Nat) (b0 : Bo) (tot : List Int) (r : Ts × Nat) : Prop where
  e : r.2 = 1 ∨ r.2 = 2
  ask : Askd b0 r.1.b r.1.a
  part : Part b0.s tot r.1.l r.1.nm
  col : ∀ u ∈ r.1.nm, u ∈ b0.l
  shut : wishB r.1.b r.1.o 0 = false ∨ deadB r.1.b = true
  fit : r.1.a + N ≤ (2 * p2 b0.s.d.toNat + 1) * ((b0.s.d.toNat + 2) * N)
  all : b0.v = 0 → r.2 = 1 ∧ wishB r.1.b r.1.o 0 = false
theorem wish_open {b : Bo} {o : List Bool} (h : wishB b o 0 = true) : 0 < o.length := by
  apply Classical.byContradiction
  intro hn
  obtain rfl : o = [] := List.eq_nil_of_length_eq_zero (by omega)
  cases h
theorem merged_mem {a b : List Int} {x : Int} (h : x ∈ merged a b) : x ∈ a ∨ x ∈ b := by
  have := (List.mem_filter.1 h).2
  rw [Bool.or_eq_true] at this
  exact this.imp List.contains_iff_mem.1 List.contains_iff_mem.1
theorem round_law {N : Nat} {b0 : Bo} {tot : List Int} {t : Ts} (hs : schB b0.s = true) (hu : usersB b0.l ((p2 b0.s.d.toNat : Nat) : Int) = true) (ht : tot.Nodup) (k : Tin N b0 tot t) (hb : Okb b0) (hN : 2 * b0.n + 1 ≤ (N : Int)) (hc : ∀ u ∈ t.nm, u ∈ b0.l) :
    (∀ u ∈ (roundN N t).1.nm, u ∈ b0.l) ∧ ((roundN N t).2 ≠ 0 → Fin N b0 tot (roundN N t)) := by
  obtain ⟨hl1, hl2⟩ := len_le hs ht k.part
  have hfit := k.fit
  rw [Nat.succ_mul] at hfit
  have hk : (b0.s.d.toNat + 2) * N = b0.s.d.toNat * N + 2 * N := Nat.add_mul _ _ _
  have hbt := hb.run k.ask
  have hNt : 2 * t.b.n + 1 ≤ (N : Int) := by rw [k.ask.n]; exact hN
  obtain ⟨j, j1, j2, j3, -⟩ := seenN_run t.o 0 N t.a k.ask
  have hy := seen_yes (o := t.o) (f := 0) (N := N) (n := t.a) hbt
  have hn := not_seen (o := t.o) (f := 0) (N := N) (n := t.a) hbt hNt
  obtain ⟨q1, -, q2, -⟩ := seenN_run t.o 0 N t.a hbt.refl
  rw [Nat.zero_add] at q2
  rcases hs1 : seenN t.o 0 N t.b t.a with ⟨b1, p1, a1⟩
  rw [hs1] at j2 j3 hy hn q2
  simp only at j2 j3 hy hn q2
  subst j3
  have o1 : ∀ {b : Bo} {c : Nat} (a : Nat) (nm : List Int), Askd b0 b c → Ts.o ⟨b, t.l, nm, a⟩ = t.o := fun a nm h => by
    show opens _ t.l t.l.length = opens t.b t.l t.l.length
    rw [opens_same h, opens_same k.ask]
  cases p1 with
  | false =>
    rw [round_1 hs1]
    refine ⟨hc, fun _ => ⟨.inl rfl, j2, k.part, hc, ?_, by simp only; omega, fun hv => ⟨rfl, ?_⟩⟩⟩
    · rw [o1 _ _ j2, wish_same q2]; exact hn rfl
    · rw [o1 _ _ j2, wish_same q2]
      rcases hn rfl with h | h
      · exact h
      · have := of_decide_eq_true h
        have := j2.v
        omega
  | true =>
    obtain ⟨hw0, hd0⟩ := hy rfl
    have hb1 := hb.run j2
    have hN1 : 2 * b1.n + 1 ≤ (N : Int) := by rw [j2.n]; exact hN
    have hpos := wish_open hw0
    obtain ⟨q, q1', q2', q3', q4, q5⟩ := searchN_run t.o N t.o.length (i := b0.s.d.toNat) (low := 0) (high := t.o.length) (t.a + j) j2 hpos (by rw [opens_length]; omega)
    obtain ⟨c, c1, c2, c3⟩ := search_open (o := t.o) (N := N) (k := t.o.length) (low := 0) (high := t.o.length) (a := t.a + j) hb1 hN1 (by omega) hpos (by rw [wish_same q2]; exact hw0) (.inl (wish_len _ _))
    rcases hs2 : searchN t.o N t.o.length 0 t.o.length b1 (t.a + j) with ⟨b2, low, a2⟩
    rw [hs2] at q2' q3' q4 q5 c1 c2 c3
    simp only at q2' q3' q4 q5 c1 c2 c3
    subst q3'
    have hb2 := hb.run q2'
    have hN2 : 2 * b2.n + 1 ≤ (N : Int) := by rw [q2'.n]; exact hN
    obtain ⟨i, i1, i2, i3, -⟩ := seenN_run t.o 0 N (t.a + j + q) q2'
    obtain ⟨y, -, y2, -⟩ := seenN_run t.o 0 N (t.a + j + q) hb2.refl
    have hy3 := seen_yes (o := t.o) (f := 0) (N := N) (n := t.a + j + q) hb2
    have hn3 := not_seen (o := t.o) (f := 0) (N := N) (n := t.a + j + q) hb2 hN2
    rcases hs3 : seenN t.o 0 N b2 (t.a + j + q) with ⟨b3, p3, a3⟩
    rw [hs3] at i2 i3 hy3 hn3 y2
    simp only at i2 i3 hy3 hn3 y2
    subst i3
    cases p3 with
    | false =>
      have hd : deadB b3 = true := by
        rcases hn3 rfl with h | h
        · rw [wish_same q2', ← wish_same k.ask, hw0] at h; cases h
        · exact h
      rw [round_2 hs1 hs2 hs3]
      refine ⟨hc, fun _ => ⟨.inr rfl, i2, k.part, hc, .inr hd, ?_, fun hv => ?_⟩⟩
      · have hp : 1 ≤ t.pot := by
          have h1 := allm_ge hs k.part.sub
          have h2 := opens_length t
          simp only [Ts.pot, pot, k.ask.s]
          omega
        have := Nat.mul_le_mul_right ((b0.s.d.toNat + 2) * N) hp
        simp only; omega
      · have := of_decide_eq_true hd
        have := i2.v
        omega
    | true =>
      rw [round_0 hs1 hs2 hs3]
      obtain ⟨-, hd3⟩ := hy3 rfl
      refine ⟨fun u hu' => ?_, fun h => absurd rfl h⟩
      have hopen : t.o.getD low false = true := by
        refine wish_skip c2 (c3.resolve_right fun h => ?_)
        have := dead_mono y2 h
        rw [hd3] at this; cases this
      have hlow : low < t.l.length := by rw [← opens_length]; exact q5
      rw [Ts.o, opens_get hlow, k.ask.s, k.ask.l] at hopen
      simp only [takenM, k.ask.s] at hu'
      split at hu'
      · next h1 =>
        rcases merged_mem hu' with h | h
        · exact hc u h
        · obtain ⟨w, hw, hm⟩ := opn_mem hopen
          obtain ⟨i, hi, rfl⟩ := mem_at.1 hw
          have hat := users_at hu hi
          have hw' : at_ b0.l i ∈ membersN b0.s (qn t.l low) (qm t.l low) (p2 b0.s.d.toNat) := by
            have := members_mem (s := b0.s) (v := qn t.l low) (w := qm t.l low) (n := p2 b0.s.d.toNat) (u := (at_ b0.l i).toNat) (by omega) hm
            rwa [Int.toNat_of_nonneg hat.1] at this
          obtain ⟨z, hz⟩ := List.length_eq_one_iff.1 h1
          rw [hz, List.mem_singleton] at h hw'
          rw [h, ← hw']; exact hw
      · exact hc u hu'
theorem traced_law {N : Nat} {b0 : Bo} {tot : List Int} (hs : schB b0.s = true) (hu : usersB b0.l ((p2 b0.s.d.toNat : Nat) : Int) = true) (ht : tot.Nodup) (hr : ∀ x ∈ tot, 0 ≤ x ∧ x < 64) (hb : Okb b0) (hN : 2 * b0.n + 1 ≤ (N : Int)) :
    ∀ {k : Nat} {t : Ts}, t.pot < k → Tin N b0 tot t → (∀ u ∈ t.nm, u ∈ b0.l) → Fin N b0 tot (tracedN N k t)
  | 0, t, h, _, _ => by omega
  | k + 1, t, h, hi, hc => by
    obtain ⟨h1, h2⟩ := round_law hs hu ht hi hb hN hc
    by_cases h0 : (roundN N t).2 = 0
    · obtain ⟨h3, h4⟩ := (hi.round hs ht hr).1 h0
      rw [tracedN_0 h0]
      exact traced_law hs hu ht hr hb hN (by omega) h3 h1
    · rw [tracedN_e h0]; exact h2 h0
end Go.Proofs.YtoegpalacppllaaGreat.Tr

/- What a box plays: as its coalition knows; what is not open does not count; noise. No program is in sight here. -/
namespace Go.Proofs.YtoegpalacppllaaGreat.Tr
open Hn

/-- with no fakes each open item is right -/
theorem stp_zero (o : List Bool) : ∀ n, (stp o 0 n).2.1 = 0 ∧ ((stp o 0 n).1 = 0 ↔ ∀ i, i < n → o.getD i false = false)
  | 0 => ⟨rfl, ⟨fun _ i hi => by omega, fun _ => rfl⟩⟩
  | n + 1 => by
    obtain ⟨h1, h2⟩ := stp_zero o n
    cases h : o.getD n false with
    | false =>
      rw [stp_no h]
      refine ⟨h1, h2.trans ⟨fun k i hi => ?_, fun k i hi => k i (by omega)⟩⟩
      by_cases e : i = n
      · rw [e]; exact h
      · exact k i (by omega)
    | true =>
      rw [stp_right h (by omega)]
      refine ⟨h1, ⟨fun k => absurd k (by simp), fun k => ?_⟩⟩
      have := k n (by omega)
      rw [h] at this; cases this
def anyB (o : List Bool) (n : Nat) : Bool := (List.range n).any fun i => o.getD i false
theorem anyB_iff {o : List Bool} {n : Nat} : anyB o n = false ↔ ∀ i, i < n → o.getD i false = false := by
  unfold anyB
  rw [List.any_eq_false]
  exact ⟨fun h i hi => by simpa using h i (List.mem_range.2 hi), fun h i hi => by rw [h i (List.mem_range.1 hi)]; decide⟩
theorem wish_zero (b : Bo) (o : List Bool) : wishB b o 0 = anyB o o.length := by
  obtain ⟨h1, h2⟩ := stp_zero o o.length
  unfold wishB
  rw [decide_eq_true h1, Bool.true_or, Bool.and_true]
  cases h : anyB o o.length with
  | false => rw [decide_eq_true (h2.2 (anyB_iff.1 h))]; rfl
  | true =>
    rw [decide_eq_false fun e => by rw [anyB_iff.2 (h2.1 e)] at h; cases h]; rfl
theorem opens_getD {b : Bo} {l : List (Int × Int)} {i : Nat} (hi : i < l.length) : (opens b l l.length).getD i false = opnB b.s b.l (qn l i) (qm l i) := opens_get hi
end Go.Proofs.YtoegpalacppllaaGreat.Tr

/- What the end of a trace tells, as the outright statements ask. No program is in sight here. -/
namespace Go.Proofs.YtoegpalacppllaaGreat.Tr
open Hn

/-- the receivers of a list, in order -/
def restL (t : List Int) (n : Nat) : List Int := (rangeI n).filter fun u => t.contains u
theorem restL_yes {t : List Int} {n : Nat} (h : t.contains (n : Int) = true) : restL t (n + 1) = restL t n ++ [(n : Int)] := by
  rw [restL, rangeI_succ, List.filter_append, List.filter_cons_of_pos h]; rfl
theorem restL_no {t : List Int} {n : Nat} (h : t.contains (n : Int) = false) : restL t (n + 1) = restL t n := by
  rw [restL, rangeI_succ, List.filter_append, List.filter_cons_of_neg (by rw [h]; decide)]; simp [restL]
theorem restL_le (t : List Int) (n : Nat) : (restL t n).length ≤ n := Nat.le_trans (List.length_filter_le _ _) (by rw [len_rangeI]; exact Nat.le_refl _)
theorem mem_restL {t : List Int} {n : Nat} {x : Int} : x ∈ restL t n ↔ (0 ≤ x ∧ x < n) ∧ x ∈ t := by
  rw [restL, List.mem_filter, mem_rangeI, List.contains_iff_mem]
theorem restL_nodup (t : List Int) (n : Nat) : (restL t n).Nodup := List.Pairwise.filter _ (nodup_rangeI n)
theorem len_eq_of {a b : List Int} (ha : a.Nodup) (hb : b.Nodup) (h : ∀ x, x ∈ a ↔ x ∈ b) : a.length = b.length :=
  Nat.le_antisymm (List.Nodup.length_le_of_subset ha fun x hx => (h x).1 hx) (List.Nodup.length_le_of_subset hb fun x hx => (h x).2 hx)
theorem restL_len {t : List Int} {n : Nat} (hn : t.Nodup) (hr : ∀ x ∈ t, 0 ≤ x ∧ x < n) : (restL t n).length = t.length :=
  len_eq_of (restL_nodup t n) hn fun x => ⟨fun h => (mem_restL.1 h).2, fun h => mem_restL.2 ⟨hr x h, h⟩⟩
/-- whether subsets are valid, and no receiver is a member of two -/
def memsB (s : Sc) (l : List (Int × Int)) : Bool := (List.range l.length).all (fun i => schB s && subB s (qn l i) (qm l i)) && decide (allm s l).Nodup
/-- the receivers of some subsets -/
def memsL (s : Sc) (l : List (Int × Int)) : List Int := if memsB s l then restL (allm s l) 64 else []
/-- a trace without an error -/
structure TrOk (b : Bo) (l : List (Int × Int)) (noise : Int) (r : Ts × Nat) : Prop where
  s : schB b.s = true
  box : chkB b = 0
  n0 : 0 ≤ noise
  n8 : noise ≤ 8
  lim : b.a + lim b.s.d noise ≤ 100000
  sub : ∀ i, i < l.length → subB b.s (qn l i) (qm l i) = true
  nd : (allm b.s l).Nodup
  fin : Fin (2 * noise.toNat + 1) b (allm b.s l) r
theorem all_64 {s : Sc} {l : List (Int × Int)} (hs : schB s = true) : ∀ x ∈ allm s l, 0 ≤ x ∧ x < 64 := fun x hx => by
  have h1 := all_lt hx
  have h2 := p2_le (n := s.d.toNat) (by have := schB_iff.1 hs; omega)
  omega
theorem trace_ok {b : Bo} {l : List (Int × Int)} {noise : Int} (h : traceE b l noise = 0) (hn : b.n ≤ noise) : TrOk b l noise (traceT b l noise) := by
  by_cases hc : chkB b ≠ 0
  · rw [trE_b hc] at h; exact absurd h hc
  · by_cases hp : partsE b.s l ≠ 0
    · rw [trE_p hc hp] at h; exact absurd h hp
    · by_cases hno : 0 ≤ noise ∧ noise ≤ 8
      · by_cases hlm : 100000 < b.a + lim b.s.d noise
        · rw [trE_f hc hp hno hlm] at h; exact absurd h (by decide)
        · obtain ⟨hs, hu, h1, h2, h3, h4, h5, h6, h7, h8, h9, h10⟩ := chkB_ok hc
          obtain ⟨-, hpe, hnd⟩ := parts_ok hp
          obtain ⟨-, hbb⟩ := subsE_ok (show ¬ subsE b.s l ≠ 0 by omega)
          refine ⟨hs, Classical.not_not.1 hc, hno.1, hno.2, by omega, hbb, hnd, ?_⟩
          rw [traceT, if_pos h]
          exact traced_law hs hu hnd (all_64 hs) ⟨h3, h4, h9, h10⟩ (by omega) (Nat.lt_succ_self _) (Tin.first hs h9 h10 hbb hnd) fun u hu => by cases hu
      · rw [trE_n hc hp hno] at h; exact absurd h (by decide)
section
variable {b : Bo} {l : List (Int × Int)} {noise : Int} {r : Ts × Nat} (k : TrOk b l noise r)
include k
theorem TrOk.asked : (r.1.a : Int) ≤ boundV b.s noise ∧ boundE b.s noise = 0 := by
  obtain ⟨h1, h2⟩ := bound_ok k.s ⟨k.n0, k.n8⟩
  have hd := schB_iff.1 k.s
  rw [h1, h2, lim_nat (by omega) k.n0]
  have := k.fin.fit
  exact ⟨by omega, rfl⟩
theorem TrOk.nd2 : (allm b.s r.1.l ++ r.1.nm).Nodup := (k.fin.part.perm.nodup_iff).2 k.nd
theorem TrOk.okb : Okb b := by
  obtain ⟨hs, hu, h1, h2, h3, h4, h5, h6, h7, h8, h9, h10⟩ := chkB_ok (show ¬ chkB b ≠ 0 by have := k.box; omega)
  exact ⟨h3, h4, h9, h10⟩
theorem TrOk.s' : r.1.b.s = b.s := k.fin.ask.s
theorem TrOk.subs' : r.1.l.length ≤ 64 ∧ ∀ i, i < r.1.l.length → subB b.s (qn r.1.l i) (qm r.1.l i) = true := by
  have hd := schB_iff.1 k.s
  have h1 := (len_le k.s k.nd k.fin.part).2
  have h2 := p2_le (n := b.s.d.toNat) (by omega)
  exact ⟨by omega, fun i hi => k.fin.part.sub _ (q_mem.2 ⟨i, hi, rfl⟩)⟩
theorem TrOk.before : memsB b.s l = true ∧ memsL b.s l = restL (allm b.s l) 64 := by
  have h : memsB b.s l = true := by
    rw [memsB, Bool.and_eq_true, List.all_eq_true]
    exact ⟨fun i hi => by rw [k.s, k.sub i (List.mem_range.1 hi)]; rfl, decide_eq_true k.nd⟩
  exact ⟨h, if_pos h⟩
theorem TrOk.after : memsB b.s r.1.l = true ∧ memsL b.s r.1.l = restL (allm b.s r.1.l) 64 := by
  have h : memsB b.s r.1.l = true := by
    rw [memsB, Bool.and_eq_true, List.all_eq_true]
    exact ⟨fun i hi => by rw [k.s, k.subs'.2 i (List.mem_range.1 hi)]; rfl, decide_eq_true (List.nodup_append.1 k.nd2).1⟩
  exact ⟨h, if_pos h⟩
theorem TrOk.sum : (restL (allm b.s r.1.l) 64).length + r.1.nm.length = (restL (allm b.s l) 64).length := by
  rw [restL_len (List.nodup_append.1 k.nd2).1 (all_64 k.s), restL_len k.nd (all_64 k.s), ← k.fin.part.perm.length_eq, List.length_append]
theorem TrOk.named {u : Int} (hu : u ∈ r.1.nm) : u ∈ b.l ∧ u ∈ restL (allm b.s l) 64 ∧ u ∉ restL (allm b.s r.1.l) 64 := by
  have h1 := k.fin.part.perm.subset (List.mem_append_right _ hu)
  exact ⟨k.fin.col u hu, mem_restL.2 ⟨all_64 k.s u h1, h1⟩, fun h => (List.nodup_append.1 k.nd2).2.2 u (mem_restL.1 h).2 u hu rfl⟩
/-- the queries behind a trace -/
theorem TrOk.run (j : Nat) : Askd r.1.b (asks r.1.o 0 j r.1.b) j := by
  have := asks_run r.1.o 0 j (k.okb.run k.fin.ask).refl
  rwa [Nat.zero_add] at this
theorem TrOk.quiet (j : Nat) : plays (asks r.1.o 0 j r.1.b) r.1.o 0 = false := by
  cases h : plays (asks r.1.o 0 j r.1.b) r.1.o 0 with
  | false => rfl
  | true =>
    obtain ⟨h1, h2, -⟩ := plays_iff.1 h
    have hr := k.run j
    rw [wish_same hr] at h1
    rcases k.fin.shut with hs | hs
    · rw [h1] at hs; cases hs
    · have hd := dead_mono (hr.ask r.1.o 0) hs
      have := of_decide_eq_true hd
      rw [(hr.ask r.1.o 0).v, ← hr.v] at this
      exact absurd this h2
/-- of an immortal box all are named -/
theorem TrOk.all (hv : b.v = 0) {u : Int} (hu : u ∈ b.l) (hb : u ∈ restL (allm b.s l) 64) : u ∈ r.1.nm := by
  have h1 := (k.fin.all hv).2
  have h2 := (k.fin.part.perm.symm.subset (mem_restL.1 hb).2)
  rcases List.mem_append.1 h2 with h | h
  · exfalso
    obtain ⟨m, hm, hx⟩ := List.mem_flatten.1 h
    obtain ⟨y, hy, rfl⟩ := List.mem_map.1 hm
    obtain ⟨i, hi, e⟩ := q_mem.1 hy
    have hmem := (members_lt hx).2.2
    have ho := mem_opn (s := b.s) hu hmem
    rw [wish_zero, show r.1.o.length = r.1.l.length from opens_len _ _ _] at h1
    have := anyB_iff.1 h1 i hi
    rw [Ts.o, opens_getD hi, k.s', k.fin.ask.l] at this
    rw [e] at ho
    rw [ho] at this; cases this
  · exact h
theorem TrOk.count (hv : b.v = 0) : (b.l.filter fun u => (restL (allm b.s l) 64).contains u).length = r.1.nm.length := by
  obtain ⟨hs, hu, -⟩ := chkB_ok (show ¬ chkB b ≠ 0 by have := k.box; omega)
  refine len_eq_of (List.Pairwise.filter _ (users_nodup hu)) (List.nodup_append.1 k.nd2).2.1 fun x => ?_
  rw [List.mem_filter, List.contains_iff_mem]
  exact ⟨fun h => k.all hv h.1 h.2, fun h => ⟨(k.named h).1, (k.named h).2.1⟩⟩
end
end Go.Proofs.YtoegpalacppllaaGreat.Tr

/- The members of some subsets. -/
namespace Go.Proofs.YtoegpalacppllaaGreat
open Go.RowKit Pl
open Tr Hn
/-- which of 64 receivers are in a list, as cells -/
def hasC (t : List Int) : List Value := (List.range 64).map fun (u : Nat) => Value.bool (t.contains (u : Int))
theorem hasC_len (t : List Int) : (hasC t).length = 64 := by simp [hasC]
theorem hasC_get {t : List Int} {u : Nat} (h : u < 64) : (hasC t)[u]? = some (.bool (t.contains (u : Int))) := by simp [hasC, h]
theorem hasC_nil : hasC [] = z160 := by kernel_rfl
theorem hasC_put {t m : List Int} {y u : Nat} (hy : y < m.length) (hu : at_ m y = (u : Int)) : (hasC (t ++ m.take y)).set u (.bool true) = hasC (t ++ m.take (y + 1)) := by
 have hm : m.take (y + 1) = m.take y ++ [(u : Int)] := by
  rw [List.take_succ_eq_append_getElem hy]
  have : m[y] = (u : Int) := by rw [← hu]; simp [at_, List.getD_eq_getElem?_getD, hy]
  rw [this]
 rw [hm]
 refine List.ext_getElem? fun i => ?_
 rw [List.getElem?_set]
 by_cases hi : i < 64
 ·rw [hasC_get hi, hasC_len]
  by_cases e : u = i
  ·subst e; rw [if_pos rfl, if_pos hi, hasC_get hi]; simp
  ·rw [if_neg e, hasC_get hi]
   have : ¬ ((i : Int) = (u : Int)) := by omega
   simp [this]
 ·have h1 : ∀ t, (hasC t)[i]? = none := fun t => List.getElem?_eq_none (by rw [hasC_len]; omega)
  rw [h1, h1, hasC_len]
  split
  ·split
   ·omega
   ·rfl
  ·rfl
theorem take_nd {t m : List Int} {y u : Nat} (hy : y < m.length) (hu : at_ m y = (u : Int)) (hn : (t ++ m.take y).Nodup) (hc : (t ++ m.take y).contains (u : Int) = false) : (t ++ m.take (y + 1)).Nodup := by
 have hm : m.take (y + 1) = m.take y ++ [(u : Int)] := by
  rw [List.take_succ_eq_append_getElem hy]
  have : m[y] = (u : Int) := by rw [← hu]; simp [at_, List.getD_eq_getElem?_getD, hy]
  rw [this]
 rw [hm, ← List.append_assoc, List.nodup_append]
 refine ⟨hn, by simp, fun a ha b hb e => ?_⟩
 rw [List.mem_singleton] at hb
 rw [e, hb] at ha
 rw [List.contains_iff_mem.2 ha] at hc; cases hc
theorem dup_two {t m rest : List Int} {y u : Nat} (hy : y < m.length) (hu : at_ m y = (u : Int)) (hc : (t ++ m.take y).contains (u : Int) = true) : ¬ (t ++ (m ++ rest)).Nodup := fun hn => by
 have e : t ++ (m ++ rest) = (t ++ m.take y) ++ (m.drop y ++ rest) := by
  rw [List.append_assoc, ← List.append_assoc (m.take y), List.take_append_drop]
 rw [e] at hn
 refine (List.nodup_append.1 hn).2.2 u (List.contains_iff_mem.1 hc) u ?_ rfl
 refine List.mem_append_left _ (List.mem_of_getElem? (i := 0) ?_)
 rw [List.getElem?_drop, Nat.add_zero, at_get hy, hu]
theorem allm_at {s : Sc} {l : List (Int × Int)} {i : Nat} (hi : i < l.length) : allm s (l.take (i + 1)) = allm s (l.take i) ++ membersN s (qn l i) (qm l i) (p2 s.d.toNat) := by
 rw [take_q hi, allm_append, allm_cons]; simp [allm, mems]
theorem allm_cut {s : Sc} {l : List (Int × Int)} {i : Nat} (hi : i < l.length) : allm s l = allm s (l.take i) ++ (membersN s (qn l i) (qm l i) (p2 s.d.toNat) ++ allm s (l.drop (i + 1))) := by
 have h := congrArg (allm s) (cut_at hi)
 rw [allm_append, allm_cons] at h
 exact h
theorem memsB_sub {s : Sc} {l : List (Int × Int)} {i : Nat} (hi : i < l.length) (h : (schB s && subB s (qn l i) (qm l i)) = false) : memsB s l = false ∧ memsL s l = [] := by
 have e : memsB s l = false := by
  rw [memsB, Bool.and_eq_false_iff]
  exact .inl (List.all_eq_false.2 ⟨i, List.mem_range.2 hi, by rw [h]; decide⟩)
 exact ⟨e, by rw [memsL, if_neg (by rw [e]; decide)]⟩
theorem memsB_dup {s : Sc} {l : List (Int × Int)} (h : ¬ (allm s l).Nodup) : memsB s l = false ∧ memsL s l = [] := by
 have e : memsB s l = false := by rw [memsB, decide_eq_false h, Bool.and_false]
 exact ⟨e, by rw [memsL, if_neg (by rw [e]; decide)]⟩
theorem memsB_yes {s : Sc} {l : List (Int × Int)} (h : ∀ k, k < l.length → (schB s && subB s (qn l k) (qm l k)) = true) (hn : (allm s l).Nodup) : memsB s l = true ∧ memsL s l = restL (allm s l) 64 := by
 have e : memsB s l = true := by
  rw [memsB, Bool.and_eq_true]
  exact ⟨List.all_eq_true.2 fun i hi => h i (List.mem_range.1 hi), decide_eq_true hn⟩
 exact ⟨e, by rw [memsL, if_pos e]⟩
theorem dropT {b : Base} {W : World} {x : Blk} {L B : List Blk} (h : Cl b ((x :: L) ++ B) W) : Cl b L W := h.sub ((List.sublist_cons_self x L).trans (List.sublist_append_left _ B))
set_option maxRecDepth 10000 in
/-- headend/headendlaw08.members -/
theorem g_membersY (s : Sc) (ra : Option Addr) (rn rc : Nat) (l : List (Int × Int)) (hq : l.length ≤ 100) (hs : schB s = true) : GivesX Tryz.prog 45 [.agg [.int .u8 s.k, .int .i64 s.d, .int .i64 s.g, .int .u64 s.p, .int .u64 s.q, .int .u64 s.r].toArray, .slice ra rn rc].toArray (fun w => RdB w ⟨ra, rn, rc⟩ l) (fun v Bs => ∃ t : Sl, v = .tuple #[t.v, .bool (memsB s l)] ∧ NewI t (memsL s l) Bs) := by
 refine givesX_of Tryz.func45 rfl (bs := [.agg [.int .u8 s.k, .int .i64 s.d, .int .i64 s.g, .int .u64 s.p, .int .u64 s.q, .int .u64 s.r].toArray, .slice ra rn rc, undef, undef, undef, undef, undef, undef, undef, undef, undef, undef, undef, undef, undef, undef, undef, undef, undef, undef, undef, undef, undef, undef, undef, undef, undef, undef, undef, undef, undef, undef, undef, undef, undef, undef, undef, undef, undef, undef, undef, undef, undef, undef, undef, undef, undef, undef, undef, undef, undef, undef, undef, undef, undef, undef, undef, undef, undef, undef, undef, undef]) rfl ?_
 intro w hP hW
 have hn : rn = l.length := hP.len
 have hp6 := p2_le (n := s.d.toNat) (by have := schB_iff.1 hs; omega)
 refine c_seq (c_reg ?_)
 refine xB hW ?_
 intro g1 W hW
 refine bS ?_
 refine bB ?_
 refine l_end (n_then (c_seq (c_reg ?_)))
 refine l_alloc hW tyZ160 rfl rfl rfl ?_
 intro g2 W hW
 refine l_end (n_then (c_seq (c_seq (c_reg ?_))))
 refine aS ?_
 refine l_val (r_lenSlice Tryz.underlying33 rfl rfl) rfl rfl ?_
 refine aI ?_
 refine l_end (n_then (c_block ?_))
 refine c_loop (fun (z : Nat) (j : Nat → Value) => [.agg [.int .u8 s.k, .int .i64 s.d, .int .i64 s.g, .int .u64 s.p, .int .u64 s.q, .int .u64 s.r].toArray, .slice ra rn rc, .pointer (some ⟨g1, 0, none⟩), j 3, j 4, j 5, .pointer (some ⟨g2, 0, none⟩), j 7, j 8, j 9, j 10, j 11, j 12, j 13, j 14, .slice ra rn rc, .int .i64 (rn : Int), .int .i64 (z : Int), j 18, j 19, j 20, j 21, j 22, j 23, j 24, j 25, j 26, j 27, j 28, j 29, j 30, j 31, j 32, j 33, j 34, j 35, j 36, j 37, j 38, j 39, j 40, j 41, j 42, j 43, j 44, j 45, j 46, j 47, j 48, j 49, j 50, j 51, j 52, j 53, j 54, j 55, j 56, j 57, j 58, j 59, j 60, j 61]) (fun (z : Nat) => [⟨g2, hasC (allm s (l.take z)), 160⟩, ⟨g1, [.int .u8 s.k, .int .i64 s.d, .int .i64 s.g, .int .u64 s.p, .int .u64 s.q, .int .u64 s.r], 26⟩]) (fun (z : Nat) => z ≤ rn ∧ (∀ k, k < z → (schB s && subB s (qn l k) (qm l k)) = true) ∧ (allm s (l.take z)).Nodup) (fun (z : Nat) => rn - z) 0 (by kernel_rfl) (by rw [show allm s (l.take 0) = [] from rfl, hasC_nil]; exact hW) ⟨Nat.zero_le _, fun k hk => by omega, List.nodup_nil⟩ ?_
 intro z j W hx hW
 obtain ⟨hz, hib, hnd⟩ := hx
 refine c_seq (c_reg ?_)
 refine l_val (r_lssN rfl rfl rfl rfl) rfl rfl ?_
 refine l_split ?_ ?_
 ·intro hc1
  replace hc1 := of_decide_eq_true hc1
  obtain ⟨b0, o0, ha, hc⟩ := hP.ptr (by omega)
  refine l_end (n_then (c_seq ?_))
  refine c_true rfl ?_
  refine c_skip (n_then (c_seq (c_block (c_seq (c_reg ?_)))))
  refine l_val (r_indexAddrSlB (n := z) Tryz.underlying33 tyA64.size rfl (congrArg (fun a => Value.slice a rn rc) ha) rfl (by omega)) rfl rfl ?_
  refine l_loadF2 hW tyA64 (hc z (by omega)).1 (hc z (by omega)).2 rfl rfl rfl rfl ?_
  refine l_alloc hW tyZ64 rfl rfl rfl ?_
  intro g3 W hW
  refine sA hW 0 tyA64 ?_
  intro W hW
  refine l_end (n_then (c_seq (c_reg ?_)))
  refine dA hW 2 tyA26 ?_
  refine dA hW 0 tyA64 ?_
  refine l_callX hW (g_Members s (qn l z) (qm l z) hs) en43 trivial rfl rfl rfl rfl ?_
  rintro _ B4 W ⟨tM, rfl, nM⟩ hW
  obtain ⟨ee, hee⟩ : ∃ ee : Int, ee = (if subB s (qn l z) (qm l z) then 0 else 31) := ⟨_, rfl⟩
  rw [← hee]
  have hsf : ee ≠ 0 → subB s (qn l z) (qm l z) = false := fun h => by
   cases hb : subB s (qn l z) (qm l z) with
   | true => rw [hb] at hee; exact absurd hee h
   | false => rfl
  have hst : ¬ ee ≠ 0 → subB s (qn l z) (qm l z) = true := fun h => by
   cases hb : subB s (qn l z) (qm l z) with
   | true => rfl
   | false => rw [hb] at hee; exact absurd (fun e => by rw [hee] at e; exact absurd e (by decide)) h
  refine l_val (r_move (v := .tuple _) rfl rfl) rfl rfl ?_
  refine l_val (r_extract (v := .slice _ _ _) rfl rfl rfl) rfl rfl ?_
  refine l_val (r_extract (v := .int _ _) rfl rfl rfl) rfl rfl ?_
  refine bS ?_
  refine bI ?_
  refine l_end (n_then (c_seq (c_seq (c_reg ?_))))
  refine aI ?_
  refine l_val (r_neq rfl rfl rfl rfl) rfl rfl ?_
  refine l_split ?_ ?_
  ·intro hc2
   replace hc2 := of_decide_eq_true hc2
   have hNO := memsB_sub (s := s) (l := l) (i := z) (by omega) (by rw [hs, hsf hc2]; rfl)
   refine l_end (n_then ?_)
   refine c_true rfl ?_
   refine c_seq (c_reg ?_)
   refine bS ?_
   refine bB ?_
   refine l_end (n_then (c_ret (r_then (r_block (r_then (r_then (r_block (r_then ?_))))))))
   refine ret_tmp2 rfl rfl rfl ?_
   exact ⟨_, [], rfl, ⟨Sl.no, by rw [hNO.1]; rfl, by rw [hNO.2]; exact NewI.no⟩, hW.sub (List.nil_sublist _)⟩
  ·intro hc2
   replace hc2 := of_decide_eq_false hc2
   have hsub := hst hc2
   replace nM := nM hsub
   have hmn := nM.n
   have hmL := mem_len s (qn l z) (qm l z) (p2 s.d.toNat)
   refine l_end (n_then ?_)
   refine c_false rfl ?_
   refine c_skip (n_then (c_seq (c_reg ?_)))
   refine aS ?_
   refine l_val (r_lenSlice Tryz.underlying27 rfl rfl) rfl rfl ?_
   refine aI ?_
   refine l_end (n_then (c_block ?_))
   refine c_loop (fun (y : Nat) (j : Nat → Value) => [.agg [.int .u8 s.k, .int .i64 s.d, .int .i64 s.g, .int .u64 s.p, .int .u64 s.q, .int .u64 s.r].toArray, .slice ra rn rc, .pointer (some ⟨g1, 0, none⟩), j 3, j 4, j 5, .pointer (some ⟨g2, 0, none⟩), j 7, .pointer (some ⟨g3, 0, none⟩), .slice tM.a tM.n tM.c, .int .i64 ee, j 11, j 12, j 13, j 14, .slice ra rn rc, .int .i64 (rn : Int), .int .i64 (z : Int), .bool true, j 19, .agg [.int .i64 (qn l z), .int .i64 (qm l z)].toArray, .tuple #[.slice tM.a tM.n tM.c, .int .i64 ee], .agg ([.int .u8 s.k, .int .i64 s.d, .int .i64 s.g, .int .u64 s.p, .int .u64 s.q, .int .u64 s.r]).toArray, .agg ([.int .i64 (qn l z), .int .i64 (qm l z)]).toArray, .tuple #[.slice tM.a tM.n tM.c, .int .i64 ee], .slice tM.a tM.n tM.c, .int .i64 ee, .int .i64 ee, .bool false, .slice tM.a tM.n tM.c, .int .i64 (tM.n : Int), .int .i64 (y : Int), j 32, j 33, j 34, j 35, j 36, j 37, j 38, j 39, j 40, j 41, j 42, j 43, j 44, j 45, j 46, j 47, j 48, j 49, j 50, j 51, j 52, j 53, j 54, j 55, j 56, j 57, j 58, j 59, j 60, j 61]) (fun (y : Nat) => [⟨g3, [.int .i64 (qn l z), .int .i64 (qm l z)], 64⟩, ⟨g2, hasC (allm s (l.take z) ++ (membersN s (qn l z) (qm l z) (p2 s.d.toNat)).take y), 160⟩, ⟨g1, [.int .u8 s.k, .int .i64 s.d, .int .i64 s.g, .int .u64 s.p, .int .u64 s.q, .int .u64 s.r], 26⟩] ++ B4) (fun (y : Nat) => y ≤ tM.n ∧ (allm s (l.take z) ++ (membersN s (qn l z) (qm l z) (p2 s.d.toNat)).take y).Nodup) (fun (y : Nat) => tM.n - y) 0 (by kernel_rfl) (by rw [List.take_zero, List.append_nil]; exact hW) ⟨Nat.zero_le _, by rw [List.take_zero, List.append_nil]; exact hnd⟩ ?_
   intro y j W hx hW
   obtain ⟨hy, hnd2⟩ := hx
   refine c_seq (c_reg ?_)
   refine l_val (r_lssN rfl rfl rfl rfl) rfl rfl ?_
   refine l_split ?_ ?_
   ·intro hc3
    replace hc3 := of_decide_eq_true hc3
    obtain ⟨b1, o1, ha, hd⟩ := ((nM.rep.at (show Cl _ ([_, _, _] ++ B4) _ from hW) ((List.sublist_append_right _ B4)))).ptr (by omega)
    have hml := members_lt (at_mem (l := membersN s (qn l z) (qm l z) (p2 s.d.toNat)) (i := y) (by omega))
    obtain ⟨u, hu⟩ : ∃ u : Nat, at_ (membersN s (qn l z) (qm l z) (p2 s.d.toNat)) y = (u : Int) := ⟨(at_ (membersN s (qn l z) (qm l z) (p2 s.d.toNat)) y).toNat, by omega⟩
    have hu64 : u < 64 := by omega
    refine l_end (n_then (c_seq ?_))
    refine c_true rfl ?_
    refine c_skip (n_then (c_seq (c_block (c_seq (c_reg ?_)))))
    refine l_val (r_indexAddrSl2 (n := y) Tryz.underlying27 tyC3.size rfl (congrArg (fun a => Value.slice a tM.n tM.c) ha) rfl (by omega)) rfl rfl ?_
    refine l_loadW tyC3 (v := .int .i64 (u : Int)) ((hd (y) (by omega)).trans (congrArg (fun x => some (IV x)) hu)) rfl rfl rfl rfl ?_
    refine bI ?_
    refine l_end (n_then (c_seq (c_seq (c_reg ?_))))
    refine aI ?_
    refine l_val (r_lssN (b := false) (n := 0) rfl rfl rfl (decide_eq_false (by omega))) rfl rfl ?_
    refine aB ?_
    refine gI ?_
    refine l_valG (r_geqN (b := false) (n := 64) rfl rfl rfl (decide_eq_false (by omega))) (by kernel_rfl) rfl ?_
    refine kB ?_
    refine aB ?_
    refine gI ?_
    refine l_valG (r_indexAddrArr1 Tryz.underlying160 tyC4.size rfl rfl rfl (by omega)) (by kernel_rfl) rfl ?_
    refine l_loadCG hW 1 tyC4 (by kernel_rfl) rfl rfl rfl rfl (hasC_get hu64) ?_
    refine l_split ?_ ?_
    ·intro hc4
     have hNO := memsB_dup (s := s) (l := l) (by rw [allm_cut (i := z) (by omega)]; exact dup_two (by omega) hu hc4)
     refine kB ?_
     refine l_end (n_then ?_)
     refine c_true rfl ?_
     refine c_seq (c_reg ?_)
     refine bS ?_
     refine bB ?_
     refine l_end (n_then (c_ret (r_then (r_block (r_then (r_then (r_block (r_block (r_then (r_then (r_block (r_then ?_))))))))))))
     refine ret_tmp2 rfl rfl rfl ?_
     exact ⟨_, [], rfl, ⟨Sl.no, by rw [hNO.1]; rfl, by rw [hNO.2]; exact NewI.no⟩, hW.sub (List.nil_sublist _)⟩
    ·intro hc4
     refine kB ?_
     refine l_end (n_then ?_)
     refine c_false rfl ?_
     refine c_skip (n_then (c_reg ?_))
     refine aI ?_
     refine l_val (r_indexAddrArr1 Tryz.underlying160 tyC4.size rfl rfl rfl (by omega)) rfl rfl ?_
     refine l_storeC hW 1 tyC4 (v := .bool _) rfl rfl rfl rfl rfl rfl (by rw [hasC_len]; omega) rfl ?_
     intro W hW
     refine l_end (n_block (n_then (c_reg ?_)))
     refine l_val (r_addN (n := 1) rfl rfl rfl (by omega)) rfl rfl ?_
     refine aI ?_
     refine l_end (n_then ?_)
     exact loop_next (y + 1) (by kernel_rfl) (by rw [← hasC_put (by omega) hu]; exact hW) ⟨by omega, take_nd (by omega) hu hnd2 hc4⟩ (by omega)
   ·intro hc3
    replace hc3 := of_decide_eq_false hc3
    refine l_end (n_then (c_seq ?_))
    refine c_false rfl ?_
    refine c_exit (x_then (x_then ?_))
    refine x_hit ?_
    refine n_block (n_then (c_reg ?_))
    refine l_val (r_addN (n := 1) rfl rfl rfl (by omega)) rfl rfl ?_
    refine aI ?_
    refine l_end (n_then ?_)
    have hye : y = (membersN s (qn l z) (qm l z) (p2 s.d.toNat)).length := by omega
    rw [hye, List.take_of_length_le (Nat.le_refl _), ← allm_at (by omega)] at hW hnd2
    exact loop_next (z + 1) (by kernel_rfl) (dropT (show Cl _ ((_ :: [_, _]) ++ B4) _ from hW)) ⟨by omega, all_upto hib (by rw [hs, hsub]; rfl), hnd2⟩ (by omega)
 ·intro hc1
  replace hc1 := of_decide_eq_false hc1
  have hze : z = l.length := by omega
  rw [hze, List.take_of_length_le (Nat.le_refl _)] at hW hnd
  have hY := memsB_yes (fun k hk => hib k (by omega)) hnd
  refine l_end (n_then (c_seq ?_))
  refine c_false rfl ?_
  refine c_exit (x_then (x_then ?_))
  refine x_hit ?_
  refine n_then (c_seq (c_reg ?_))
  refine bS ?_
  refine l_end (n_then (c_seq (c_seq (c_reg ?_))))
  refine aI ?_
  refine l_end (n_then (c_block ?_))
  refine c_loop (fun (x : Nat × Option Addr × Nat × Nat × List Blk) (j : Nat → Value) => [.agg [.int .u8 s.k, .int .i64 s.d, .int .i64 s.g, .int .u64 s.p, .int .u64 s.q, .int .u64 s.r].toArray, .slice ra rn rc, .pointer (some ⟨g1, 0, none⟩), j 3, j 4, j 5, .pointer (some ⟨g2, 0, none⟩), j 7, j 8, j 9, j 10, j 11, j 12, .slice x.2.1 x.2.2.1 x.2.2.2.1, j 14, .slice ra rn rc, .int .i64 (rn : Int), j 17, .bool false, j 19, j 20, j 21, j 22, j 23, j 24, j 25, j 26, j 27, j 28, j 29, j 30, j 31, j 32, j 33, j 34, j 35, j 36, j 37, j 38, j 39, j 40, j 41, j 42, j 43, j 44, j 45, j 46, j 47, j 48, j 49, .int .i64 (x.1 : Int), j 51, j 52, j 53, j 54, j 55, j 56, j 57, j 58, j 59, j 60, j 61]) (fun (x : Nat × Option Addr × Nat × Nat × List Blk) => [⟨g2, hasC (allm s l), 160⟩, ⟨g1, [.int .u8 s.k, .int .i64 s.d, .int .i64 s.g, .int .u64 s.p, .int .u64 s.q, .int .u64 s.r], 26⟩] ++ x.2.2.2.2) (fun (x : Nat × Option Addr × Nat × Nat × List Blk) => x.1 ≤ 64 ∧ x.2.2.1 ≤ x.1 ∧ OwnSl 3 1 x.2.1 x.2.2.1 x.2.2.2.1 (il (restL (allm s l) x.1)) x.2.2.2.2) (fun (x : Nat × Option Addr × Nat × Nat × List Blk) => 64 - x.1) (0, none, 0, 0, []) (by kernel_rfl) (by simpa using hW) ⟨Nat.zero_le _, Nat.zero_le _, OwnSl.nil 3 1⟩ ?_
  intro x j W hx hW
  obtain ⟨hx, hml, hO⟩ := hx
  refine c_seq (c_reg ?_)
  refine l_val (r_lssN (n := 64) rfl rfl rfl rfl) rfl rfl ?_
  refine l_split ?_ ?_
  ·intro hc5
   replace hc5 := of_decide_eq_true hc5
   refine l_end (n_then (c_seq ?_))
   refine c_true rfl ?_
   refine c_skip (n_then (c_seq (c_block (c_seq (c_reg ?_)))))
   refine aI ?_
   refine bI ?_
   refine l_end (n_then (c_seq (c_reg ?_)))
   refine aI ?_
   refine l_val (r_indexAddrArr1 Tryz.underlying160 tyC4.size rfl rfl rfl (by omega)) rfl rfl ?_
   refine l_loadC hW 0 tyC4 rfl rfl rfl rfl rfl (hasC_get (by omega)) ?_
   refine l_split ?_ ?_
   ·intro hc6
    refine l_end (n_then ?_)
    refine c_true rfl ?_
    refine c_reg ?_
    refine aS ?_
    refine aI ?_
    refine l_buildSliceF hW (bsl27_1_0 _) rfl rfl rfl rfl ?_
    intro gb W hW
    refine l_appendB tyE27 (L := [_, _, _]) hO hW 0 (N := x.2.2.1 + 1) rfl rfl rfl rfl rfl rfl rfl rfl (by simp [Value.oneCell']) (by unfold maxLen; omega) (by omega) ?_
    intro a1 c1 Bs1 W hO1 hW
    replace hO1 := hO1.castx rfl (xs' := il (restL (allm s l) (x.1 + 1))) (by rw [restL_yes hc6, il_append]; rfl)
    refine bS ?_
    refine l_end (n_block (n_then (c_reg ?_)))
    refine l_val (r_addN (n := 1) rfl rfl rfl (by omega)) rfl rfl ?_
    refine aI ?_
    refine l_end (n_then ?_)
    exact loop_next (x.1 + 1, a1, x.2.2.1 + 1, c1, Bs1) (by kernel_rfl) (hW.drop 1) ⟨by simp only; omega, by simp only; omega, hO1⟩ (by simp only; omega)
   ·intro hc6
    refine l_end (n_then ?_)
    refine c_false rfl ?_
    refine c_skip (n_block (n_then (c_reg ?_)))
    refine l_val (r_addN (n := 1) rfl rfl rfl (by omega)) rfl rfl ?_
    refine aI ?_
    refine l_end (n_then ?_)
    exact loop_next (x.1 + 1, x.2.1, x.2.2.1, x.2.2.2.1, x.2.2.2.2) (by kernel_rfl) hW ⟨by simp only; omega, by simp only; omega, by simp only; rw [restL_no hc6]; exact hO⟩ (by simp only; omega)
  ·intro hc5
   replace hc5 := of_decide_eq_false hc5
   have e : x.1 = 64 := by omega
   rw [e] at hO
   refine l_end (n_then (c_seq ?_))
   refine c_false rfl ?_
   refine c_exit (x_then (x_then ?_))
   refine x_hit ?_
   refine n_then (c_seq (c_reg ?_))
   refine aS ?_
   refine bS ?_
   refine bB ?_
   refine l_end (n_then (c_ret ?_))
   refine ret_tmp2 rfl rfl rfl ?_
   exact ⟨_, _, rfl, ⟨⟨x.2.1, x.2.2.1, x.2.2.2.1⟩, by rw [hY.1]; rfl, by rw [hY.2]; exact hO.newI⟩, (show Cl _ ([_, _] ++ x.2.2.2.2) _ from hW).sub (List.sublist_append_right _ _)⟩

set_option maxRecDepth 10000 in
/-- headend/headendlaw08.members -/
theorem g_membersN (s : Sc) (ra : Option Addr) (rn rc : Nat) (l : List (Int × Int)) (hq : l.length ≤ 100) (hs : schB s = false) : GivesX Tryz.prog 45 [.agg [.int .u8 s.k, .int .i64 s.d, .int .i64 s.g, .int .u64 s.p, .int .u64 s.q, .int .u64 s.r].toArray, .slice ra rn rc].toArray (fun w => RdB w ⟨ra, rn, rc⟩ l) (fun v Bs => ∃ t : Sl, v = .tuple #[t.v, .bool (memsB s l)] ∧ NewI t (memsL s l) Bs) := by
 refine givesX_of Tryz.func45 rfl (bs := [.agg [.int .u8 s.k, .int .i64 s.d, .int .i64 s.g, .int .u64 s.p, .int .u64 s.q, .int .u64 s.r].toArray, .slice ra rn rc, undef, undef, undef, undef, undef, undef, undef, undef, undef, undef, undef, undef, undef, undef, undef, undef, undef, undef, undef, undef, undef, undef, undef, undef, undef, undef, undef, undef, undef, undef, undef, undef, undef, undef, undef, undef, undef, undef, undef, undef, undef, undef, undef, undef, undef, undef, undef, undef, undef, undef, undef, undef, undef, undef, undef, undef, undef, undef, undef, undef]) rfl ?_
 intro w hP hW
 have hn : rn = l.length := hP.len
 refine c_seq (c_reg ?_)
 refine xB hW ?_
 intro g1 W hW
 refine bS ?_
 refine bB ?_
 refine l_end (n_then (c_seq (c_reg ?_)))
 refine l_alloc hW tyZ160 rfl rfl rfl ?_
 intro g2 W hW
 refine l_end (n_then (c_seq (c_seq (c_reg ?_))))
 refine aS ?_
 refine l_val (r_lenSlice Tryz.underlying33 rfl rfl) rfl rfl ?_
 refine aI ?_
 refine l_end (n_then (c_block ?_))
 refine c_loop (fun (z : Nat) (j : Nat → Value) => [.agg [.int .u8 s.k, .int .i64 s.d, .int .i64 s.g, .int .u64 s.p, .int .u64 s.q, .int .u64 s.r].toArray, .slice ra rn rc, .pointer (some ⟨g1, 0, none⟩), j 3, j 4, j 5, .pointer (some ⟨g2, 0, none⟩), j 7, j 8, j 9, j 10, j 11, j 12, j 13, j 14, .slice ra rn rc, .int .i64 (rn : Int), .int .i64 (z : Int), j 18, j 19, j 20, j 21, j 22, j 23, j 24, j 25, j 26, j 27, j 28, j 29, j 30, j 31, j 32, j 33, j 34, j 35, j 36, j 37, j 38, j 39, j 40, j 41, j 42, j 43, j 44, j 45, j 46, j 47, j 48, j 49, j 50, j 51, j 52, j 53, j 54, j 55, j 56, j 57, j 58, j 59, j 60, j 61]) (fun (z : Nat) => [⟨g2, hasC ([]), 160⟩, ⟨g1, [.int .u8 s.k, .int .i64 s.d, .int .i64 s.g, .int .u64 s.p, .int .u64 s.q, .int .u64 s.r], 26⟩]) (fun (z : Nat) => z = 0) (fun (z : Nat) => rn - z) 0 (by kernel_rfl) (by rw [hasC_nil]; exact hW) rfl ?_
 intro z j W hx hW
 refine c_seq (c_reg ?_)
 refine l_val (r_lssN rfl rfl rfl rfl) rfl rfl ?_
 refine l_split ?_ ?_
 ·intro hc1
  replace hc1 := of_decide_eq_true hc1
  obtain ⟨b0, o0, ha, hc⟩ := hP.ptr (by omega)
  have hNO := memsB_sub (s := s) (l := l) (i := z) (by omega) (by rw [hs]; rfl)
  refine l_end (n_then (c_seq ?_))
  refine c_true rfl ?_
  refine c_skip (n_then (c_seq (c_block (c_seq (c_reg ?_)))))
  refine l_val (r_indexAddrSlB (n := z) Tryz.underlying33 tyA64.size rfl (congrArg (fun a => Value.slice a rn rc) ha) rfl (by omega)) rfl rfl ?_
  refine l_loadF2 hW tyA64 (hc z (by omega)).1 (hc z (by omega)).2 rfl rfl rfl rfl ?_
  refine l_alloc hW tyZ64 rfl rfl rfl ?_
  intro g3 W hW
  refine sA hW 0 tyA64 ?_
  intro W hW
  refine l_end (n_then (c_seq (c_reg ?_)))
  refine dA hW 2 tyA26 ?_
  refine dA hW 0 tyA64 ?_
  refine l_callX hW (g_MembersX s (qn l z) (qm l z) hs) en43 trivial rfl rfl rfl rfl ?_
  rintro _ B4 W ⟨rfl, rfl⟩ hW
  refine l_val (r_move (v := .tuple _) rfl rfl) rfl rfl ?_
  refine l_val (r_extract (v := .slice _ _ _) rfl rfl rfl) rfl rfl ?_
  refine l_val (r_extract (v := .int _ _) rfl rfl rfl) rfl rfl ?_
  refine bS ?_
  refine bI ?_
  refine l_end (n_then (c_seq (c_seq (c_reg ?_))))
  refine aI ?_
  refine l_val (r_neq (b := true) rfl rfl rfl (by decide)) rfl rfl ?_
  refine l_end (n_then ?_)
  refine c_true rfl ?_
  refine c_seq (c_reg ?_)
  refine bS ?_
  refine bB ?_
  refine l_end (n_then (c_ret (r_then (r_block (r_then (r_then (r_block (r_then ?_))))))))
  refine ret_tmp2 rfl rfl rfl ?_
  exact ⟨_, [], rfl, ⟨Sl.no, by rw [hNO.1]; rfl, by rw [hNO.2]; exact NewI.no⟩, hW.sub (List.nil_sublist _)⟩
 ·intro hc1
  replace hc1 := of_decide_eq_false hc1
  have hle : l = [] := List.eq_nil_of_length_eq_zero (by omega)
  have hae : allm s l = [] := by rw [hle]; rfl
  rw [← hae] at hW
  have hY := memsB_yes (s := s) (l := l) (fun k hk => by omega) (by rw [hae]; exact List.nodup_nil)
  refine l_end (n_then (c_seq ?_))
  refine c_false rfl ?_
  refine c_exit (x_then (x_then ?_))
  refine x_hit ?_
  refine n_then (c_seq (c_reg ?_))
  refine bS ?_
  refine l_end (n_then (c_seq (c_seq (c_reg ?_))))
  refine aI ?_
  refine l_end (n_then (c_block ?_))
  refine c_loop (fun (x : Nat × Option Addr × Nat × Nat × List Blk) (j : Nat → Value) => [.agg [.int .u8 s.k, .int .i64 s.d, .int .i64 s.g, .int .u64 s.p, .int .u64 s.q, .int .u64 s.r].toArray, .slice ra rn rc, .pointer (some ⟨g1, 0, none⟩), j 3, j 4, j 5, .pointer (some ⟨g2, 0, none⟩), j 7, j 8, j 9, j 10, j 11, j 12, .slice x.2.1 x.2.2.1 x.2.2.2.1, j 14, .slice ra rn rc, .int .i64 (rn : Int), j 17, .bool false, j 19, j 20, j 21, j 22, j 23, j 24, j 25, j 26, j 27, j 28, j 29, j 30, j 31, j 32, j 33, j 34, j 35, j 36, j 37, j 38, j 39, j 40, j 41, j 42, j 43, j 44, j 45, j 46, j 47, j 48, j 49, .int .i64 (x.1 : Int), j 51, j 52, j 53, j 54, j 55, j 56, j 57, j 58, j 59, j 60, j 61]) (fun (x : Nat × Option Addr × Nat × Nat × List Blk) => [⟨g2, hasC (allm s l), 160⟩, ⟨g1, [.int .u8 s.k, .int .i64 s.d, .int .i64 s.g, .int .u64 s.p, .int .u64 s.q, .int .u64 s.r], 26⟩] ++ x.2.2.2.2) (fun (x : Nat × Option Addr × Nat × Nat × List Blk) => x.1 ≤ 64 ∧ x.2.2.1 ≤ x.1 ∧ OwnSl 3 1 x.2.1 x.2.2.1 x.2.2.2.1 (il (restL (allm s l) x.1)) x.2.2.2.2) (fun (x : Nat × Option Addr × Nat × Nat × List Blk) => 64 - x.1) (0, none, 0, 0, []) (by kernel_rfl) (by simpa using hW) ⟨Nat.zero_le _, Nat.zero_le _, OwnSl.nil 3 1⟩ ?_
  intro x j W hx hW
  obtain ⟨hx, hml, hO⟩ := hx
  refine c_seq (c_reg ?_)
  refine l_val (r_lssN (n := 64) rfl rfl rfl rfl) rfl rfl ?_
  refine l_split ?_ ?_
  ·intro hc2
   replace hc2 := of_decide_eq_true hc2
   refine l_end (n_then (c_seq ?_))
   refine c_true rfl ?_
   refine c_skip (n_then (c_seq (c_block (c_seq (c_reg ?_)))))
   refine aI ?_
   refine bI ?_
   refine l_end (n_then (c_seq (c_reg ?_)))
   refine aI ?_
   refine l_val (r_indexAddrArr1 Tryz.underlying160 tyC4.size rfl rfl rfl (by omega)) rfl rfl ?_
   refine l_loadC hW 0 tyC4 rfl rfl rfl rfl rfl (hasC_get (by omega)) ?_
   refine l_split ?_ ?_
   ·intro hc3
    refine l_end (n_then ?_)
    refine c_true rfl ?_
    refine c_reg ?_
    refine aS ?_
    refine aI ?_
    refine l_buildSliceF hW (bsl27_1_0 _) rfl rfl rfl rfl ?_
    intro gb W hW
    refine l_appendB tyE27 (L := [_, _, _]) hO hW 0 (N := x.2.2.1 + 1) rfl rfl rfl rfl rfl rfl rfl rfl (by simp [Value.oneCell']) (by unfold maxLen; omega) (by omega) ?_
    intro a1 c1 Bs1 W hO1 hW
    replace hO1 := hO1.castx rfl (xs' := il (restL (allm s l) (x.1 + 1))) (by rw [restL_yes hc3, il_append]; rfl)
    refine bS ?_
    refine l_end (n_block (n_then (c_reg ?_)))
    refine l_val (r_addN (n := 1) rfl rfl rfl (by omega)) rfl rfl ?_
    refine aI ?_
    refine l_end (n_then ?_)
    exact loop_next (x.1 + 1, a1, x.2.2.1 + 1, c1, Bs1) (by kernel_rfl) (hW.drop 1) ⟨by simp only; omega, by simp only; omega, hO1⟩ (by simp only; omega)
   ·intro hc3
    refine l_end (n_then ?_)
    refine c_false rfl ?_
    refine c_skip (n_block (n_then (c_reg ?_)))
    refine l_val (r_addN (n := 1) rfl rfl rfl (by omega)) rfl rfl ?_
    refine aI ?_
    refine l_end (n_then ?_)
    exact loop_next (x.1 + 1, x.2.1, x.2.2.1, x.2.2.2.1, x.2.2.2.2) (by kernel_rfl) hW ⟨by simp only; omega, by simp only; omega, by simp only; rw [restL_no hc3]; exact hO⟩ (by simp only; omega)
  ·intro hc2
   replace hc2 := of_decide_eq_false hc2
   have e : x.1 = 64 := by omega
   rw [e] at hO
   refine l_end (n_then (c_seq ?_))
   refine c_false rfl ?_
   refine c_exit (x_then (x_then ?_))
   refine x_hit ?_
   refine n_then (c_seq (c_reg ?_))
   refine aS ?_
   refine bS ?_
   refine bB ?_
   refine l_end (n_then (c_ret ?_))
   refine ret_tmp2 rfl rfl rfl ?_
   exact ⟨_, _, rfl, ⟨⟨x.2.1, x.2.2.1, x.2.2.2.1⟩, by rw [hY.1]; rfl, by rw [hY.2]; exact hO.newI⟩, (show Cl _ ([_, _] ++ x.2.2.2.2) _ from hW).sub (List.sublist_append_right _ _)⟩

/-- members of some subsets -/
theorem g_members (s : Sc) (ra : Option Addr) (rn rc : Nat) (l : List (Int × Int)) (hq : l.length ≤ 100) : GivesX Tryz.prog 45 [.agg [.int .u8 s.k, .int .i64 s.d, .int .i64 s.g, .int .u64 s.p, .int .u64 s.q, .int .u64 s.r].toArray, .slice ra rn rc].toArray (fun w => RdB w ⟨ra, rn, rc⟩ l) (fun v Bs => ∃ t : Sl, v = .tuple #[t.v, .bool (memsB s l)] ∧ NewI t (memsL s l) Bs) := by
 cases hs : schB s with
 | true => exact g_membersY s ra rn rc l hq hs
 | false => exact g_membersN s ra rn rc l hq hs
end Go.Proofs.YtoegpalacppllaaGreat

/- The law of findings. -/
namespace Go.Proofs.YtoegpalacppllaaGreat
open Go.RowKit Pl
open Tr Hn
theorem traced_part {N : Nat} {b0 : Bo} {tot : List Int} (hs : schB b0.s = true) (ht : tot.Nodup) (hr : ∀ x ∈ tot, 0 ≤ x ∧ x < 64) : ∀ {k : Nat} {t : Ts}, Tin N b0 tot t → Part b0.s tot (tracedN N k t).1.l (tracedN N k t).1.nm
 | 0, t, hi => hi.part
 | k + 1, t, hi => by
  obtain ⟨h1, -, -, h2⟩ := hi.round hs ht hr
  by_cases h : (roundN N t).2 = 0
  ·rw [tracedN_0 h]; exact traced_part hs ht hr (h1 h).1
  ·rw [tracedN_e h]; exact h2
theorem traceT_fit {b : Bo} {l : List (Int × Int)} {noise : Int} (hl : b.l.length ≤ 100) : (traceT b l noise).1.nm.length ≤ 64 ∧ (traceT b l noise).1.l.length ≤ 64 ∧ (traceT b l noise).1.b.l.length ≤ 100 := by
 unfold traceT
 split
 ·next h =>
  by_cases hc : chkB b ≠ 0
  ·rw [trE_b hc] at h; exact absurd h hc
  ·by_cases hp : partsE b.s l ≠ 0
   ·rw [trE_p hc hp] at h; exact absurd h hp
   ·obtain ⟨hs, hu, h1, h2, h3, h4, h5, h6, h7, h8, h9, h10⟩ := chkB_ok hc
    obtain ⟨-, hpe, hnd⟩ := parts_ok hp
    obtain ⟨hq2, hbb⟩ := subsE_ok (show ¬ subsE b.s l ≠ 0 by omega)
    have hd := schB_iff.1 hs
    have hp6 := p2_le (n := b.s.d.toNat) (by omega)
    have hrg : ∀ x ∈ allm b.s l, 0 ≤ x ∧ x < 64 := fun x hx => by
     have := all_lt hx
     omega
    have ht := Tin.first (N := 2 * noise.toNat + 1) hs h9 h10 hbb hnd
    have h11 := traced_part hs hnd hrg ht (k := (⟨b, l, [], 0⟩ : Ts).pot + 1)
    have h12 := (traced_ask hs hnd hrg ht (k := (⟨b, l, [], 0⟩ : Ts).pot + 1)).l
    obtain ⟨h13, h14⟩ := len_le hs hnd h11
    refine ⟨?_, ?_, ?_⟩
    ·have h1 := (List.nodup_append.1 ((h11.perm.nodup_iff).2 hnd)).2.1
     have h2 := List.Nodup.length_le_of_subset (l₂ := (List.range 64).map fun u : Nat => (u : Int)) h1 fun x hx => by
      have := hrg x (h11.perm.subset (List.mem_append_right _ hx))
      exact List.mem_map.2 ⟨x.toNat, List.mem_range.2 (by omega), by omega⟩
     rw [List.length_map, List.length_range] at h2
     exact h2
    ·exact Nat.le_trans h14 (by omega)
    ·exact Nat.le_trans (Nat.le_of_eq (congrArg List.length h12)) hl
 ·exact ⟨Nat.zero_le _, Nat.zero_le _, Nat.zero_le _⟩
end Go.Proofs.YtoegpalacppllaaGreat

/- The law: of an immortal box all of the coalition are named. -/
namespace Go.Proofs.YtoegpalacppllaaGreat
open Go.RowKit Pl
open Tr Hn
/-- how many of the first are in another list -/
def cntL (l m : List Int) (n : Nat) : Nat := ((l.take n).filter fun u => m.contains u).length
theorem cntL_yes {l m : List Int} {n : Nat} (hn : n < l.length) (h : m.contains (at_ l n) = true) : cntL l m (n + 1) = cntL l m n + 1 := by
 have e : l[n] = at_ l n := by simp [at_, List.getD_eq_getElem?_getD, hn]
 rw [cntL, List.take_succ_eq_append_getElem hn, List.filter_append, e, List.filter_cons_of_pos h, List.length_append]; rfl
theorem cntL_no {l m : List Int} {n : Nat} (hn : n < l.length) (h : m.contains (at_ l n) = false) : cntL l m (n + 1) = cntL l m n := by
 have e : l[n] = at_ l n := by simp [at_, List.getD_eq_getElem?_getD, hn]
 rw [cntL, List.take_succ_eq_append_getElem hn, List.filter_append, e, List.filter_cons_of_neg (by rw [h]; decide), List.length_append]; rfl
theorem cntL_all {l m : List Int} : cntL l m l.length = (l.filter fun u => m.contains u).length := by rw [cntL, List.take_of_length_le (Nat.le_refl _)]
theorem cntL_le (l m : List Int) (n : Nat) : cntL l m n ≤ n := Nat.le_trans (List.length_filter_le _ _) (by rw [List.length_take]; omega)
set_option maxRecDepth 10000 in
set_option maxHeartbeats 1000000 in
/-- headend/headendlaw08.TraceAll -/
theorem g_TraceAll (b : Bo) (t : Sl) (ra : Option Addr) (rn rc : Nat) (l : List (Int × Int)) (noise : Int) : GivesR Tryz.prog 12 [.agg (boC b t).toArray, .slice ra rn rc, .int .i64 noise].toArray (fun w => RdI w t b.l ∧ RdB w ⟨ra, rn, rc⟩ l) (.bool true) := by
 refine givesR_of Tryz.func12 rfl (bs := [.agg (boC b t).toArray, .slice ra rn rc, .int .i64 noise, undef, undef, undef, undef, undef, undef, undef, undef, undef, undef, undef, undef, undef, undef, undef, undef, undef, undef, undef, undef, undef, undef, undef, undef, undef, undef, undef, undef, undef, undef, undef, undef, undef, undef, undef, undef, undef, undef, undef, undef, undef, undef, undef, undef, undef, undef, undef, undef, undef, undef, undef, undef, undef, undef, undef, undef, undef, undef, undef, undef, undef, undef, undef, undef, undef, undef, undef, undef, undef, undef, undef, undef, undef, undef, undef, undef, undef, undef, undef, undef, undef, undef, undef, undef, undef, undef, undef, undef, undef, undef, undef, undef, undef, undef, undef, undef, undef]) rfl ?_
 intro w hP hW
 have hn := hP.1.len
 have hrn : rn = l.length := hP.2.len
 refine c_seq (c_reg ?_)
 refine xB hW ?_
 intro g1 W hW
 refine bB ?_
 refine l_end (n_then (c_seq (c_reg ?_)))
 refine l_callR hW (Pre := fun _ => True) (fun w _ => g_alive w) en31 trivial rfl rfl rfl rfl ?_
 intro W hW
 refine bB ?_
 refine l_end (n_then (c_seq (c_seq (c_reg ?_))))
 refine l_val (r_fieldAddr 6 Tryz.underlying31 rfl tyC27.size rfl rfl rfl) rfl rfl ?_
 refine dC hW 0 tyC27 ?_
 refine l_val (r_lenSlice Tryz.underlying27 rfl rfl) rfl rfl ?_
 refine l_val (r_gtrN (n := 100) rfl rfl rfl rfl) rfl rfl ?_
 refine l_split ?_ ?_
 ·intro hc1
  replace hc1 := of_decide_eq_true hc1
  refine aB ?_
  refine lN ?_
  refine lN ?_
  refine lN ?_
  refine kB ?_
  refine aB ?_
  refine lN ?_
  refine lN ?_
  refine lN ?_
  refine lN ?_
  refine kB ?_
  refine aB ?_
  refine lN ?_
  refine lN ?_
  refine lN ?_
  refine kB ?_
  refine aB ?_
  refine lN ?_
  refine lN ?_
  refine kB ?_
  refine l_end (n_then ?_)
  refine c_true rfl ?_
  refine c_seq (c_reg ?_)
  refine aB ?_
  refine bB ?_
  refine l_end (n_then (c_ret (r_then ?_)))
  refine ret_tmp (v := .bool true) rfl ?_ ⟨rfl, hW.below⟩
  rfl
 ·intro hc1
  replace hc1 := of_decide_eq_false hc1
  refine aB ?_
  refine l_valG (r_move (v := .slice _ _ _) rfl rfl) (by kernel_rfl) rfl ?_
  refine l_valG (r_lenSlice Tryz.underlying33 rfl rfl) (by kernel_rfl) rfl ?_
  refine l_valG (r_gtrN (n := 64) rfl rfl rfl rfl) (by kernel_rfl) rfl ?_
  refine l_split ?_ ?_
  ·intro hc2
   replace hc2 := of_decide_eq_true hc2
   refine kB ?_
   refine aB ?_
   refine lN ?_
   refine lN ?_
   refine lN ?_
   refine lN ?_
   refine kB ?_
   refine aB ?_
   refine lN ?_
   refine lN ?_
   refine lN ?_
   refine kB ?_
   refine aB ?_
   refine lN ?_
   refine lN ?_
   refine kB ?_
   refine l_end (n_then ?_)
   refine c_true rfl ?_
   refine c_seq (c_reg ?_)
   refine aB ?_
   refine bB ?_
   refine l_end (n_then (c_ret (r_then ?_)))
   refine ret_tmp (v := .bool true) rfl ?_ ⟨rfl, hW.below⟩
   rfl
  ·intro hc2
   replace hc2 := of_decide_eq_false hc2
   refine kB ?_
   refine aB ?_
   refine gI ?_
   refine l_valG (r_fieldAddr 8 Tryz.underlying31 rfl tyC3.size rfl rfl rfl) (by kernel_rfl) rfl ?_
   refine dG hW 0 tyC3 ?_
   refine l_valG (r_lss rfl rfl rfl rfl) (by kernel_rfl) rfl ?_
   refine l_split ?_ ?_
   ·intro hc3
    replace hc3 := of_decide_eq_true hc3
    refine kB ?_
    refine aB ?_
    refine lN ?_
    refine lN ?_
    refine lN ?_
    refine kB ?_
    refine aB ?_
    refine lN ?_
    refine lN ?_
    refine kB ?_
    refine l_end (n_then ?_)
    refine c_true rfl ?_
    refine c_seq (c_reg ?_)
    refine aB ?_
    refine bB ?_
    refine l_end (n_then (c_ret (r_then ?_)))
    refine ret_tmp (v := .bool true) rfl ?_ ⟨rfl, hW.below⟩
    rfl
   ·intro hc3
    replace hc3 := of_decide_eq_false hc3
    refine kB ?_
    refine aB ?_
    refine l_valG (r_fieldAddr 9 Tryz.underlying31 rfl tyC3.size rfl rfl rfl) (by kernel_rfl) rfl ?_
    refine dG hW 0 tyC3 ?_
    refine l_valG (r_neq rfl rfl rfl rfl) (by kernel_rfl) rfl ?_
    refine l_split ?_ ?_
    ·intro hc4
     replace hc4 := of_decide_eq_true hc4
     refine kB ?_
     refine aB ?_
     refine lN ?_
     refine lN ?_
     refine kB ?_
     refine l_end (n_then ?_)
     refine c_true rfl ?_
     refine c_seq (c_reg ?_)
     refine aB ?_
     refine bB ?_
     refine l_end (n_then (c_ret (r_then ?_)))
     refine ret_tmp (v := .bool true) rfl ?_ ⟨rfl, hW.below⟩
     rfl
    ·intro hc4
     replace hc4 := of_decide_eq_false hc4
     have hl : b.l.length ≤ 100 := by omega
     have hq : l.length ≤ 100 := by omega
     obtain ⟨hf1, hf2, hf3⟩ := traceT_fit (l := l) (noise := noise) hl
     refine kB ?_
     refine aB ?_
     refine l_valG (r_move (v := .bool _) rfl rfl) (by kernel_rfl) rfl ?_
     refine l_valG (r_not rfl rfl) (by kernel_rfl) rfl ?_
     refine kB ?_
     refine l_end (n_then ?_)
     refine c_false rfl ?_
     refine c_skip (n_then (c_seq (c_reg ?_)))
     refine l_val (r_fieldAddr 0 Tryz.underlying31 rfl tyA26.size rfl rfl rfl) rfl rfl ?_
     refine l_loadP hW 0 tyA26 rfl rfl rfl rfl rfl (by first | rfl | omega | (simp; done) | (simp; omega)) rfl ?_
     refine aS ?_
     refine l_callX hW (g_members b.s ra rn rc l hq) en45 (hP.2.past hW.below) rfl rfl rfl rfl ?_
     rintro _ B2 W ⟨sB, rfl, nB⟩ hW
     refine l_val (r_move (v := .tuple _) rfl rfl) rfl rfl ?_
     refine l_val (r_extract (v := .slice _ _ _) rfl rfl rfl) rfl rfl ?_
     refine l_val (r_extract (v := .bool _) rfl rfl rfl) rfl rfl ?_
     refine l_split ?_ ?_
     ·intro hc5
      refine bS ?_
      refine bB ?_
      refine l_end (n_then (c_seq (c_reg ?_)))
      refine dA hW 0 tyA31 ?_
      refine aS ?_
      refine aI ?_
      refine l_callX hW (g_Trace b t ra rn rc l noise hl hq) en18 ⟨hP.1.past hW.below, hP.2.past hW.below⟩ rfl rfl rfl rfl ?_
      rintro _ _ W ⟨_, _, rfl, n1, la1, lc1, s1, BN1, BL1, BB1, rfl, rfl, rfl, h11, h21, h31⟩ hW
      obtain ⟨R, hR⟩ : ∃ tr_, tr_ = traceT b l noise := ⟨_, rfl⟩
      obtain ⟨eR, heR⟩ : ∃ e : Int, e = (R.2 : Int) := ⟨_, rfl⟩
      rw [← hR] at h11 h21 h31 ⊢
      rw [show fiC n1 ⟨la1, R.1.l.length, lc1⟩ R.1.a R.2 = [.slice n1.a n1.n n1.c, .slice la1 R.1.l.length lc1, .int .i64 (R.1.a : Int), .int .u8 eR] from by rw [heR]]
      rw [← hR] at hf1 hf2 hf3
      refine l_val (r_move (v := .tuple _) rfl rfl) rfl rfl ?_
      refine l_val (r_extract (v := .agg _) rfl rfl rfl) rfl rfl ?_
      refine l_val (r_extract (v := .agg _) rfl rfl rfl) rfl rfl ?_
      refine l_val (r_extract (v := .int _ _) rfl rfl rfl) rfl rfl ?_
      refine l_alloc hW tyZ38 rfl rfl rfl ?_
      intro g2 W hW
      refine l_alloc hW tyZ31 rfl rfl rfl ?_
      intro g3 W hW
      refine sA hW 1 tyA38 ?_
      intro W hW
      refine sA hW 0 tyA31 ?_
      intro W hW
      refine bI ?_
      refine l_end (n_then (c_seq (c_seq (c_reg ?_))))
      refine aI ?_
      refine l_val (r_neq rfl rfl rfl rfl) rfl rfl ?_
      refine l_split ?_ ?_
      ·intro hc6
       replace hc6 := of_decide_eq_true hc6
       have e7 := hc6
       refine aB ?_
       refine lN ?_
       refine lN ?_
       refine kB ?_
       refine l_end (n_then ?_)
       refine c_true rfl ?_
       refine c_seq (c_reg ?_)
       refine aB ?_
       refine aB ?_
       refine gI ?_
       refine l_valG (r_neq (b := true) rfl rfl rfl (decide_eq_true e7)) (by kernel_rfl) rfl ?_
       refine kB ?_
       refine bB ?_
       refine l_end (n_then (c_ret (r_then ?_)))
       refine ret_tmp (v := .bool true) rfl ?_ ⟨rfl, hW.below⟩
       rfl
      ·intro hc6
       replace hc6 := of_decide_eq_false hc6
       have he : traceE b l noise = 0 := by omega
       have k := trace_ok he (by omega)
       rw [← hR] at k
       have hv : b.v = 0 := by omega
       have ha := (k.fin.all hv).1
       have hnb := nB.n
       rw [k.before.2] at nB
       have hct := k.count hv
       have hle := restL_le (allm b.s l) 64
       have hn1 := h11.n
       refine aB ?_
       refine l_valG (r_move (v := .bool _) rfl rfl) (by kernel_rfl) rfl ?_
       refine l_valG (r_not rfl rfl) (by kernel_rfl) rfl ?_
       refine kB ?_
       refine l_end (n_then ?_)
       refine c_false rfl ?_
       refine c_skip (n_then (c_seq (c_reg ?_)))
       refine bI ?_
       refine l_end (n_then (c_seq (c_seq (c_reg ?_))))
       refine l_val (r_fieldAddr 6 Tryz.underlying31 rfl tyC27.size rfl rfl rfl) rfl rfl ?_
       refine dC hW 2 tyC27 ?_
       refine l_val (r_lenSlice Tryz.underlying27 rfl rfl) rfl rfl ?_
       refine aI ?_
       refine l_end (n_then (c_block ?_))
       refine c_loop (fun (z : Nat × Nat) (j : Nat → Value) => [.agg (boC b t).toArray, .slice ra rn rc, .int .i64 noise, .pointer (some ⟨g1, 0, none⟩), j 4, j 5, j 6, .bool true, .slice sB.a sB.n sB.c, .bool true, .pointer (some ⟨g2, 0, none⟩), .pointer (some ⟨g3, 0, none⟩), .int .i64 (traceE b l noise), .int .i64 (z.2 : Int), j 14, j 15, .bool true, .pointer (some ⟨g1, 6, none⟩), .slice t.a t.n t.c, .int .i64 (t.n : Int), .bool false, .bool false, .slice ra rn rc, .int .i64 (rn : Int), .bool false, .bool false, .bool false, .int .i64 noise, .pointer (some ⟨g1, 8, none⟩), .int .i64 b.n, .bool false, .bool false, .bool false, .pointer (some ⟨g1, 9, none⟩), .int .i64 b.v, .bool false, .bool false, .bool false, .bool true, .bool false, .bool false, j 41, .tuple #[.slice sB.a sB.n sB.c, .bool (memsB b.s l)], .pointer (some ⟨g1, 0, none⟩), .agg [.int .u8 b.s.k, .int .i64 b.s.d, .int .i64 b.s.g, .int .u64 b.s.p, .int .u64 b.s.q, .int .u64 b.s.r].toArray, .slice ra rn rc, .tuple #[.slice sB.a sB.n sB.c, .bool (memsB b.s l)], .slice sB.a sB.n sB.c, .bool true, .tuple #[.agg [.slice n1.a n1.n n1.c, .slice la1 R.1.l.length lc1, .int .i64 (R.1.a : Int), .int .u8 eR].toArray, .agg (boC R.1.b s1).toArray, .int .i64 (traceE b l noise)], .agg ((boC b t)).toArray, .slice ra rn rc, .int .i64 noise, .tuple #[.agg [.slice n1.a n1.n n1.c, .slice la1 R.1.l.length lc1, .int .i64 (R.1.a : Int), .int .u8 eR].toArray, .agg (boC R.1.b s1).toArray, .int .i64 (traceE b l noise)], .agg [.slice n1.a n1.n n1.c, .slice la1 R.1.l.length lc1, .int .i64 (R.1.a : Int), .int .u8 eR].toArray, .agg (boC R.1.b s1).toArray, .int .i64 (traceE b l noise), .int .i64 (traceE b l noise), .bool false, .bool false, .bool true, .bool false, .bool false, j 63, j 64, j 65, j 66, j 67, .pointer (some ⟨g1, 6, none⟩), .slice t.a t.n t.c, .int .i64 (t.n : Int), .int .i64 (z.1 : Int), j 72, j 73, j 74, j 75, j 76, j 77, j 78, j 79, j 80, j 81, j 82, j 83, j 84, j 85, j 86, j 87, j 88, j 89, j 90, j 91, j 92, j 93, j 94, j 95, j 96, j 97, j 98, j 99]) (fun (z : Nat × Nat) => [⟨g3, boC R.1.b s1, 31⟩, ⟨g2, [.slice n1.a n1.n n1.c, .slice la1 R.1.l.length lc1, .int .i64 (R.1.a : Int), .int .u8 eR], 38⟩, ⟨g1, (boC b t), 31⟩] ++ B2 ++ ((BN1 ++ BL1) ++ BB1)) (fun (z : Nat × Nat) => z.1 ≤ t.n ∧ z.2 = cntL b.l (restL (allm b.s l) 64) z.1) (fun (z : Nat × Nat) => t.n - z.1) (0, 0) (by kernel_rfl) hW ⟨Nat.zero_le _, rfl⟩ ?_
       intro z j W hx hW
       obtain ⟨hz1, hz2⟩ := hx
       have hcl := cntL_le b.l (restL (allm b.s l) 64) z.1
       refine c_seq (c_reg ?_)
       refine l_val (r_lssN rfl rfl rfl rfl) rfl rfl ?_
       refine l_split ?_ ?_
       ·intro hc7
        replace hc7 := of_decide_eq_true hc7
        obtain ⟨b0, o0, ha, hc⟩ := hP.1.ptr (by omega)
        refine l_end (n_then (c_seq ?_))
        refine c_true rfl ?_
        refine c_skip (n_then (c_seq (c_block (c_seq (c_reg ?_)))))
        refine l_val (r_indexAddrSl2 (n := z.1) Tryz.underlying27 tyC3.size rfl ((show _ = Value.slice t.a t.n t.c from rfl).trans (by rw [ha])) rfl (by omega)) rfl rfl ?_
        refine l_loadF hW tyC3 (v := .int .i64 (at_ b.l (z.1))) (hc (z.1) (by omega)) rfl rfl rfl rfl ?_
        refine bI ?_
        refine l_end (n_then (c_seq (c_seq (c_reg ?_))))
        refine aS ?_
        refine aI ?_
        refine l_callR hW (g_in sB.a sB.n sB.c (restL (allm b.s l) 64) (at_ b.l z.1) (by omega)) en40 (nB.rep.at (show Cl _ (([_, _, _] ++ B2) ++ ((BN1 ++ BL1) ++ BB1)) _ from hW) (((List.sublist_append_right _ B2).trans (List.sublist_append_left _ ((BN1 ++ BL1) ++ BB1))))) rfl rfl rfl rfl ?_
        intro W hW
        refine l_split ?_ ?_
        ·intro hc8
         refine l_val (r_not rfl rfl) rfl rfl ?_
         refine l_end (n_then ?_)
         refine c_false rfl ?_
         refine c_skip (n_then (c_seq (c_seq (c_reg ?_))))
         refine l_val (r_fieldAddr 0 Tryz.underlying38 rfl tyC27.size rfl rfl rfl) rfl rfl ?_
         refine dC hW 1 tyC27 ?_
         refine aI ?_
         refine l_callR hW (GivesR.cast (g_in n1.a n1.n n1.c R.1.nm (at_ b.l z.1) (by omega)) (congrArg Value.bool (List.contains_iff_mem.2 (k.all hv (at_mem (by omega)) (List.contains_iff_mem.1 hc8))))) en40 (h11.rep.at (show Cl _ (([_, _, _] ++ B2) ++ ((BN1 ++ BL1) ++ BB1)) _ from hW) (((List.sublist_append_left BN1 BL1).trans (List.sublist_append_left _ BB1)).trans ((List.sublist_append_right _ ((BN1 ++ BL1) ++ BB1))))) rfl rfl rfl rfl ?_
         intro W hW
         refine l_val (r_not rfl rfl) rfl rfl ?_
         refine l_end (n_then ?_)
         refine c_false rfl ?_
         refine c_skip (n_then (c_reg ?_))
         refine aI ?_
         refine l_val (r_addN (n := 1) rfl rfl rfl (by omega)) rfl rfl ?_
         refine bI ?_
         refine l_end (n_block (n_then (c_reg ?_)))
         refine l_val (r_addN (n := 1) rfl rfl rfl (by omega)) rfl rfl ?_
         refine aI ?_
         refine l_end (n_then ?_)
         exact loop_next (z.1 + 1, z.2 + 1) (by kernel_rfl) hW ⟨by simp only; omega, by simp only; rw [cntL_yes (by omega) hc8, hz2]⟩ (by simp only; omega)
        ·intro hc8
         refine l_val (r_not rfl rfl) rfl rfl ?_
         refine l_end (n_then ?_)
         refine c_true rfl ?_
         refine c_exit (x_then ?_)
         refine x_hit ?_
         refine n_then (c_reg ?_)
         refine l_val (r_addN (n := 1) rfl rfl rfl (by omega)) rfl rfl ?_
         refine aI ?_
         refine l_end (n_then ?_)
         exact loop_next (z.1 + 1, z.2) (by kernel_rfl) hW ⟨by simp only; omega, by simp only; rw [cntL_no (by omega) hc8, hz2]⟩ (by simp only; omega)
       ·intro hc7
        replace hc7 := of_decide_eq_false hc7
        refine l_end (n_then (c_seq ?_))
        refine c_false rfl ?_
        refine c_exit (x_then (x_then ?_))
        refine x_hit ?_
        refine n_then (c_seq (c_reg ?_))
        refine aB ?_
        refine aB ?_
        refine gI ?_
        refine l_valG (r_fieldAddr 0 Tryz.underlying38 rfl tyC27.size rfl rfl rfl) (by kernel_rfl) rfl ?_
        refine dG hW 1 tyC27 ?_
        refine l_valG (r_lenSlice Tryz.underlying27 rfl rfl) (by kernel_rfl) rfl ?_
        refine l_valG (r_eqlN (b := true) rfl rfl rfl (decide_eq_true (by rw [hz2, show z.1 = b.l.length by omega, cntL_all, hct, hn1]))) (by kernel_rfl) rfl ?_
        refine kB ?_
        refine aB ?_
        refine l_valG (r_fieldAddr 3 Tryz.underlying38 rfl tyC5.size rfl rfl rfl) (by kernel_rfl) rfl ?_
        refine dG hW 1 tyC5 ?_
        refine l_valG (r_eql (b := true) rfl rfl rfl (decide_eq_true (by omega))) (by kernel_rfl) rfl ?_
        refine kB ?_
        refine bB ?_
        refine l_end (n_then (c_ret ?_))
        refine ret_tmp (v := .bool true) rfl ?_ ⟨rfl, hW.below⟩
        rfl
     ·intro hc5
      refine bS ?_
      refine bB ?_
      refine l_end (n_then (c_seq (c_reg ?_)))
      refine dA hW 0 tyA31 ?_
      refine aS ?_
      refine aI ?_
      refine l_callX hW (g_Trace b t ra rn rc l noise hl hq) en18 ⟨hP.1.past hW.below, hP.2.past hW.below⟩ rfl rfl rfl rfl ?_
      rintro _ _ W ⟨_, _, rfl, n1, la1, lc1, s1, BN1, BL1, BB1, rfl, rfl, rfl, h11, h21, h31⟩ hW
      obtain ⟨R, hR⟩ : ∃ tr_, tr_ = traceT b l noise := ⟨_, rfl⟩
      obtain ⟨eR, heR⟩ : ∃ e : Int, e = (R.2 : Int) := ⟨_, rfl⟩
      rw [← hR] at h11 h21 h31 ⊢
      rw [show fiC n1 ⟨la1, R.1.l.length, lc1⟩ R.1.a R.2 = [.slice n1.a n1.n n1.c, .slice la1 R.1.l.length lc1, .int .i64 (R.1.a : Int), .int .u8 eR] from by rw [heR]]
      rw [← hR] at hf1 hf2 hf3
      refine l_val (r_move (v := .tuple _) rfl rfl) rfl rfl ?_
      refine l_val (r_extract (v := .agg _) rfl rfl rfl) rfl rfl ?_
      refine l_val (r_extract (v := .agg _) rfl rfl rfl) rfl rfl ?_
      refine l_val (r_extract (v := .int _ _) rfl rfl rfl) rfl rfl ?_
      refine l_alloc hW tyZ38 rfl rfl rfl ?_
      intro g4 W hW
      refine l_alloc hW tyZ31 rfl rfl rfl ?_
      intro g5 W hW
      refine sA hW 1 tyA38 ?_
      intro W hW
      refine sA hW 0 tyA31 ?_
      intro W hW
      refine bI ?_
      refine l_end (n_then (c_seq (c_seq (c_reg ?_))))
      refine aI ?_
      refine l_val (r_neq rfl rfl rfl rfl) rfl rfl ?_
      refine l_split ?_ ?_
      ·intro hc9
       replace hc9 := of_decide_eq_true hc9
       have e7 := hc9
       refine aB ?_
       refine lN ?_
       refine lN ?_
       refine kB ?_
       refine l_end (n_then ?_)
       refine c_true rfl ?_
       refine c_seq (c_reg ?_)
       refine aB ?_
       refine aB ?_
       refine gI ?_
       refine l_valG (r_neq (b := true) rfl rfl rfl (decide_eq_true e7)) (by kernel_rfl) rfl ?_
       refine kB ?_
       refine bB ?_
       refine l_end (n_then (c_ret (r_then ?_)))
       refine ret_tmp (v := .bool true) rfl ?_ ⟨rfl, hW.below⟩
       rfl
      ·intro hc9
       replace hc9 := of_decide_eq_false hc9
       exact absurd (trace_ok (show traceE b l noise = 0 by omega) (by omega)).before.1 (by rw [hc5]; decide)

end Go.Proofs.YtoegpalacppllaaGreat

/- For every immortal box of at most 100 receivers, every list of at most 64 subsets and every noise that is at least the box's: a trace names all of the coalition who are members of the partition, and nobody else; no conditions. -/
namespace Go.Proofs.YtoegpalacppllaaGreat
open Go.RowKit Go.ChangeShapes Go.WideShapes Pl Tr Hn

theorem traceAll_calls (H : Type) (enc : TypeId × Value → H) (W : World) (base : Nat) (args : Array Value) (ds : List (DataW H)) (ps : List MemPlace) (h : Opened enc Tryz.prog W Tryz.f12 base args ds ps) :
    Calls Tryz.prog 12 args W fun e w' => e = .returned (.bool true) ∧ Below W.heap.size W w' := by
  have r0 := h.args (ts := [31, 33, 3]) (by kernel_rfl)
  generalize hl : args.toList = l0 at r0
  obtain ⟨_, l1, rfl, a0, r1⟩ := r0.cons
  obtain ⟨b, b_s, rfl, b_rd⟩ := a0.box tyBo31
  obtain ⟨_, l2, rfl, a1, r2⟩ := r1.cons
  obtain ⟨l_a, l_n, l_c, l, rfl, l_rd⟩ := a1.subsets Tryz.underlying33 tyQ64
  obtain ⟨_, l3, rfl, a2, r3⟩ := r2.cons
  obtain ⟨noise, rfl, noise_lo, noise_hi⟩ := a2.int Tryz.underlying3
  obtain rfl := r3.nil
  rw [arr_of hl]
  exact g_TraceAll b b_s l_a l_n l_c l noise W ⟨b_rd, l_rd⟩
set_option maxRecDepth 100000 in
theorem traceAll_closed : joinedFacts Tryz.pinned.checked.prog 12 Tryz.f12 Rows.traceAllSpec Rows.traceAllRow = true := by kernel_rfl
set_option maxRecDepth 100000 in
theorem traceAll_holds : Rows.TraceAllSaid :=
  OpenClaim.holds_of_wide 12 Tryz.f12 rfl rfl rfl rfl rfl rfl rfl ⟨rfl, rfl, rfl, rfl, rfl⟩ rfl rfl rfl rfl rfl (by kernel_rfl) Tryz.func12 traceAll_closed
    (of_decide_eq_true (by kernel_rfl)) (by unfold Func.isWrapper; first | (rw [if_pos (by decide +kernel)]; kernel_rfl) | (rw [if_neg (by decide +kernel)]; exact ⟨rfl, rfl⟩))
    (fun os started H enc _ => law_lifted (C := Tryz.checked) (s := Rows.traceAllSpec) (conds := Rows.traceAllRow.domain) 4 (by kernel_rfl) (by kernel_rfl) Tryz.func12 (by kernel_rfl) (by kernel_rfl) rfl
      (fun H ds hd => match ds, hd with | [_, _, _], _ => rfl) (by kernel_rfl) Tryz.underlying4 traceAll_calls os started H enc
      (ChangeSpec.witness6 (enc := enc) (C := Tryz.checked) false ⟨#[], #[.agg #[.int .u8 0, .int .i64 0, .int .i64 0, .int .u64 0, .int .u64 0, .int .u64 0, .slice none 0 0, .int .u8 0, .int .i64 0, .int .i64 0, .int .u8 0, .int .u8 0, .int .u8 0, .int .u8 0, .int .u8 0, .int .u8 0, .int .u8 0, .int .u8 0, .int .u8 0, .int .u8 0, .int .u8 0, .int .u8 0, .int .u8 0, .int .u8 0, .int .u8 0, .int .u8 0, .int .i64 0, .int .i64 0], .slice none 0 0, .int .i64 0], []⟩ 8 (by kernel_rfl) (by kernel_rfl) (by kernel_rfl) (by kernel_rfl)))
#print axioms traceAll_holds
end Go.Proofs.YtoegpalacppllaaGreat

