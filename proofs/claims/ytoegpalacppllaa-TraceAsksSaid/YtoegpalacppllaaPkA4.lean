/- Part 4 of 5: what the law of this claim leans on -/
import Derived.Test.YtoegpalacppllaaPkA3
import Derived.Shelf.Small.Bits
import Derived.Shelf.Strconv.Itoa0
import Derived.Shelf.Sort.Plain
import Derived.Ground.Names2Prog
import Derived.Shelf.Slices.CompactI
import Derived.Shelf.Slices.SearchI
import Derived.Shelf.Slices.Cells
import Derived.Shelf.Slices.In.SortNone
import Derived.Shelf.Slices.Empties
import Derived.Test.YtoegpalacppllaaProg
/- A box after a query, by the reference. -/
namespace Go.Proofs.Ytoegpalacppllaa
open Go.RowKit Pl
open Tr Hn
set_option maxRecDepth 10000 in
set_option maxHeartbeats 4000000 in
/-- headend/headendref08.Asked -/
theorem g_rAsked (b : Bo) (t : Sl) (oa : Option Addr) (on oc : Nat) (o : List Bool) (f : Int) (n0 : 0 ≤ b.n) (n8 : b.n ≤ 8) (a0 : 0 ≤ b.a) (a1 : b.a ≤ 100000) (x1 : b.x ≤ b.a) (x0 : 0 ≤ b.x) (hl : b.l.length ≤ 100) (ho : o.length ≤ 100) : GivesX Try.prog 43 [.agg (boC b t).toArray, .slice oa on oc, .int .i64 f].toArray (fun w => RdI w t b.l ∧ RdT w ⟨oa, on, oc⟩ o) (fun v Bs => ∃ s2 : Sl, v = .tuple #[.agg (boC (askd b o f) s2).toArray, .bool (plays b o f)] ∧ NewI s2 (askd b o f).l Bs) := by
  refine givesX_of Try.func43 rfl (bs := [.agg (boC b t).toArray, .slice oa on oc, .int .i64 f, undef, undef, undef, undef, undef, undef, undef, undef, undef, undef, undef, undef, undef, undef, undef, undef, undef, undef, undef, undef, undef, undef, undef, undef, undef, undef, undef, undef, undef, undef, undef, undef, undef, undef, undef, undef, undef, undef, undef, undef, undef, undef, undef, undef, undef, undef, undef, undef, undef, undef, undef, undef, undef, undef, undef, undef, undef, undef, undef, undef, undef, undef, undef, undef, undef, undef, undef, undef, undef, undef, undef, undef, undef, undef, undef, undef, undef, undef, undef, undef, undef, undef, undef, undef, undef, undef, undef, undef, undef, undef, undef, undef, undef, undef, undef, undef, undef, undef, undef, undef, undef, undef, undef, undef, undef, undef, undef, undef, undef, undef, undef, undef, undef, undef]) rfl ?_
  intro w hP hW
  have hn : on = o.length := hP.2.len
  have ha : b.a = (b.a.toNat : Int) := by omega
  have hb : b.n + 1 = ((b.n.toNat + 1 : Nat) : Int) := by omega
  refine c_seq ?_
  refine c_reg ?_
  refine l_box hW rfl rfl rfl rfl ?_
  intro g1 W hW
  refine l_alloc hW tyZ39 rfl rfl rfl ?_
  intro g2 W hW
  refine l_val (r_assign (v := .bool _) rfl rfl) rfl rfl ?_
  refine l_end ?_
  refine n_then ?_
  refine c_seq ?_
  refine c_reg ?_
  refine l_val (r_assign (v := .int _ _) rfl rfl) rfl rfl ?_
  refine l_val (r_assign (v := .int _ _) rfl rfl) rfl rfl ?_
  refine l_end ?_
  refine n_then ?_
  refine c_seq ?_
  refine c_reg ?_
  refine l_val (r_assign (v := .bool _) rfl rfl) rfl rfl ?_
  refine l_end ?_
  refine n_then ?_
  refine c_seq ?_
  refine c_seq ?_
  refine c_reg ?_
  refine l_val (r_assign (v := .int _ _) rfl rfl) rfl rfl ?_
  refine l_end ?_
  refine n_then ?_
  refine c_block ?_
  refine c_loop (fun (x : Nat × Nat × Nat × Bool) (j : Nat → Value) => [.agg (boC b t).toArray, .slice oa on oc, .int .i64 f, .pointer (some ⟨g1, 0, none⟩), j 4, j 5, .pointer (some ⟨g2, 0, none⟩), .bool false, .int .i64 (x.2.1 : Int), .int .i64 (x.2.2.1 : Int), .bool x.2.2.2, .int .i64 (x.1 : Int), j 12, j 13, j 14, j 15, j 16, j 17, j 18, j 19, j 20, j 21, j 22, j 23, j 24, j 25, j 26, j 27, j 28, j 29, j 30, j 31, j 32, j 33, j 34, j 35, j 36, j 37, j 38, j 39, j 40, j 41, j 42, j 43, j 44, j 45, j 46, j 47, j 48, j 49, j 50, j 51, j 52, j 53, j 54, j 55, j 56, j 57, j 58, j 59, j 60, j 61, j 62, j 63, j 64, j 65, j 66, j 67, j 68, j 69, j 70, j 71, j 72, j 73, j 74, j 75, j 76, j 77, j 78, j 79, j 80, j 81, j 82, j 83, j 84, j 85, j 86, j 87, j 88, j 89, j 90, j 91, j 92, j 93, j 94, j 95, j 96, j 97, j 98, j 99, j 100, j 101, j 102, j 103, j 104, j 105, j 106, j 107, j 108, j 109, j 110, j 111, j 112, j 113, j 114, j 115, j 116]) (fun (x : Nat × Nat × Nat × Bool) => [⟨g2, z39, 39⟩, ⟨g1, (boC b t), 39⟩]) (fun (x : Nat × Nat × Nat × Bool) => x.1 ≤ on ∧ stp o f x.1 = x.2) (fun (x : Nat × Nat × Nat × Bool) => on - x.1) (0, 0, 0, false) (by kernel_rfl) hW ⟨Nat.zero_le _, rfl⟩ ?_
  intro x j W hx hW
  obtain ⟨hx, hst⟩ := hx
  have hle := stp_le o f x.1
  rw [hst] at hle
  refine c_seq ?_
  refine c_seq ?_
  refine c_reg ?_
  refine l_val (r_move (v := .int _ _) rfl rfl) rfl rfl ?_
  refine l_val (r_move (v := .slice _ _ _) rfl rfl) rfl rfl ?_
  refine l_val (r_lenSlice Try.underlying92 rfl rfl) rfl rfl ?_
  refine l_val (r_lssN rfl rfl rfl rfl) rfl rfl ?_
  refine l_split ?_ ?_
  · intro hc1
    replace hc1 := of_decide_eq_true hc1
    obtain ⟨b0, o0, ha, hc⟩ := hP.2.ptr (by omega)
    simp only at ha
    subst ha
    refine l_end ?_
    refine n_then ?_
    refine c_true rfl ?_
    refine c_skip ?_
    refine n_then ?_
    refine c_seq ?_
    refine c_block ?_
    refine c_seq ?_
    refine c_seq ?_
    refine c_reg ?_
    refine l_val (r_move (v := .slice _ _ _) rfl rfl) rfl rfl ?_
    refine l_val (r_move (v := .int _ _) rfl rfl) rfl rfl ?_
    refine l_val (r_indexAddrSl2 (n := x.1) Try.underlying92 tyC4.size rfl rfl rfl (by omega)) rfl rfl ?_
    refine l_loadF hW tyC4 (v := .bool (o.getD x.1 false)) (hc x.1 (by omega)) rfl rfl rfl rfl ?_
    refine l_split ?_ ?_
    · intro hc2
      refine l_val (r_not rfl rfl) rfl rfl ?_
      refine l_end ?_
      refine n_then ?_
      refine c_false rfl ?_
      refine c_skip ?_
      refine n_then ?_
      refine c_seq ?_
      refine c_reg ?_
      refine l_val (r_move (v := .int _ _) rfl rfl) rfl rfl ?_
      refine l_val (r_move (v := .int _ _) rfl rfl) rfl rfl ?_
      refine l_val (r_lss rfl rfl rfl rfl) rfl rfl ?_
      refine l_split ?_ ?_
      · intro hc3
        replace hc3 := of_decide_eq_true hc3
        refine l_end ?_
        refine n_then ?_
        refine c_true rfl ?_
        refine c_reg ?_
        refine l_val (r_move (v := .int _ _) rfl rfl) rfl rfl ?_
        refine l_val (r_addN (n := 1) rfl rfl rfl (by omega)) rfl rfl ?_
        refine l_val (r_assign (v := .int _ _) rfl rfl) rfl rfl ?_
        refine l_end ?_
        refine n_block ?_
        refine n_then ?_
        refine c_reg ?_
        refine l_val (r_move (v := .int _ _) rfl rfl) rfl rfl ?_
        refine l_val (r_addN (n := 1) rfl rfl rfl (by omega)) rfl rfl ?_
        refine l_val (r_assign (v := .int _ _) rfl rfl) rfl rfl ?_
        refine l_end ?_
        refine n_then ?_
        exact loop_next (x.1 + 1, x.2.1, x.2.2.1 + 1, x.2.2.2) (by kernel_rfl) hW ⟨by simp only; omega, by simp only [stp_wrong hc2 hc3, hst]⟩ (by simp only; omega)
      · intro hc3
        replace hc3 := of_decide_eq_false hc3
        refine l_end ?_
        refine n_then ?_
        refine c_false rfl ?_
        refine c_seq ?_
        refine c_reg ?_
        refine l_val (r_move (v := .bool _) rfl rfl) rfl rfl ?_
        refine l_split ?_ ?_
        · intro hc4
          refine l_val (r_move (v := .bool _) rfl rfl) rfl rfl ?_
          refine l_not (by kernel_rfl) rfl ?_
          refine l_not (by kernel_rfl) rfl ?_
          refine l_not (by kernel_rfl) rfl ?_
          refine l_not (by kernel_rfl) rfl ?_
          refine l_val (r_pick (v := .bool _) rfl rfl rfl) rfl rfl ?_
          refine l_val (r_assign (v := .bool _) rfl rfl) rfl rfl ?_
          refine l_end ?_
          refine n_then ?_
          refine c_reg ?_
          refine l_val (r_move (v := .int _ _) rfl rfl) rfl rfl ?_
          refine l_val (r_addN (n := 1) rfl rfl rfl (by omega)) rfl rfl ?_
          refine l_val (r_assign (v := .int _ _) rfl rfl) rfl rfl ?_
          refine l_end ?_
          refine n_block ?_
          refine n_then ?_
          refine c_reg ?_
          refine l_val (r_move (v := .int _ _) rfl rfl) rfl rfl ?_
          refine l_val (r_addN (n := 1) rfl rfl rfl (by omega)) rfl rfl ?_
          refine l_val (r_assign (v := .int _ _) rfl rfl) rfl rfl ?_
          refine l_end ?_
          refine n_then ?_
          exact loop_next (x.1 + 1, x.2.1 + 1, x.2.2.1, true) (by kernel_rfl) hW ⟨by simp only; omega, by simp only [stp_right hc2 hc3, hst]; exact congrArg (fun z => (x.2.1 + 1, x.2.2.1, z)) (by rw [hc4]; rfl)⟩ (by simp only; omega)
        · intro hc4
          refine l_val (r_move (v := .bool _) rfl rfl) rfl rfl ?_
          refine l_valG (r_move (v := .int _ _) rfl rfl) (by kernel_rfl) rfl ?_
          refine l_valG (r_move (v := .int _ _) rfl rfl) (by kernel_rfl) rfl ?_
          refine l_valG (r_addN rfl rfl rfl (by omega)) (by kernel_rfl) rfl ?_
          refine l_valG (r_eqlN (n := 0) rfl rfl rfl rfl) (by kernel_rfl) rfl ?_
          refine l_split ?_ ?_
          · intro hc5
            replace hc5 := of_decide_eq_true hc5
            refine l_val (r_pick (v := .bool _) rfl rfl rfl) rfl rfl ?_
            refine l_val (r_assign (v := .bool _) rfl rfl) rfl rfl ?_
            refine l_end ?_
            refine n_then ?_
            refine c_reg ?_
            refine l_val (r_move (v := .int _ _) rfl rfl) rfl rfl ?_
            refine l_val (r_addN (n := 1) rfl rfl rfl (by omega)) rfl rfl ?_
            refine l_val (r_assign (v := .int _ _) rfl rfl) rfl rfl ?_
            refine l_end ?_
            refine n_block ?_
            refine n_then ?_
            refine c_reg ?_
            refine l_val (r_move (v := .int _ _) rfl rfl) rfl rfl ?_
            refine l_val (r_addN (n := 1) rfl rfl rfl (by omega)) rfl rfl ?_
            refine l_val (r_assign (v := .int _ _) rfl rfl) rfl rfl ?_
            refine l_end ?_
            refine n_then ?_
            exact loop_next (x.1 + 1, x.2.1 + 1, x.2.2.1, true) (by kernel_rfl) hW ⟨by simp only; omega, by simp only [stp_right hc2 hc3, hst]; exact congrArg (fun z => (x.2.1 + 1, x.2.2.1, z)) (by rw [hc4, decide_eq_true (by omega)]; rfl)⟩ (by simp only; omega)
          · intro hc5
            replace hc5 := of_decide_eq_false hc5
            refine l_val (r_pick (v := .bool _) rfl rfl rfl) rfl rfl ?_
            refine l_val (r_assign (v := .bool _) rfl rfl) rfl rfl ?_
            refine l_end ?_
            refine n_then ?_
            refine c_reg ?_
            refine l_val (r_move (v := .int _ _) rfl rfl) rfl rfl ?_
            refine l_val (r_addN (n := 1) rfl rfl rfl (by omega)) rfl rfl ?_
            refine l_val (r_assign (v := .int _ _) rfl rfl) rfl rfl ?_
            refine l_end ?_
            refine n_block ?_
            refine n_then ?_
            refine c_reg ?_
            refine l_val (r_move (v := .int _ _) rfl rfl) rfl rfl ?_
            refine l_val (r_addN (n := 1) rfl rfl rfl (by omega)) rfl rfl ?_
            refine l_val (r_assign (v := .int _ _) rfl rfl) rfl rfl ?_
            refine l_end ?_
            refine n_then ?_
            exact loop_next (x.1 + 1, x.2.1 + 1, x.2.2.1, false) (by kernel_rfl) hW ⟨by simp only; omega, by simp only [stp_right hc2 hc3, hst]; exact congrArg (fun z => (x.2.1 + 1, x.2.2.1, z)) (by rw [hc4, decide_eq_false (by omega)]; rfl)⟩ (by simp only; omega)
    · intro hc2
      refine l_val (r_not rfl rfl) rfl rfl ?_
      refine l_end ?_
      refine n_then ?_
      refine c_true rfl ?_
      refine c_exit ?_
      refine x_then ?_
      refine x_hit ?_
      refine n_then ?_
      refine c_reg ?_
      refine l_val (r_move (v := .int _ _) rfl rfl) rfl rfl ?_
      refine l_val (r_addN (n := 1) rfl rfl rfl (by omega)) rfl rfl ?_
      refine l_val (r_assign (v := .int _ _) rfl rfl) rfl rfl ?_
      refine l_end ?_
      refine n_then ?_
      exact loop_next (x.1 + 1, x.2) (by kernel_rfl) hW ⟨by simp only; omega, (stp_no hc2).trans hst⟩ (by simp only; omega)
  · intro hc1
    replace hc1 := of_decide_eq_false hc1
    refine l_end ?_
    refine n_then ?_
    refine c_false rfl ?_
    refine c_exit ?_
    refine x_then ?_
    refine x_then ?_
    refine x_hit ?_
    refine n_then ?_
    refine c_seq ?_
    refine c_reg ?_
    refine l_val (r_fieldAddr 26 Try.underlying39 rfl tyC3.size rfl rfl rfl) rfl rfl ?_
    refine l_loadC hW 1 tyC3 rfl rfl rfl rfl rfl rfl ?_
    refine l_val (r_assign (v := .int _ _) rfl rfl) rfl rfl ?_
    refine l_end ?_
    refine n_then ?_
    refine c_seq ?_
    refine c_reg ?_
    refine l_loadA hW 1 tyA39 rfl rfl rfl rfl rfl (by first | rfl | exact kc_len _ | exact kcf_len _ | exact boC_len _ _ | (simp; done)) ?_
    refine l_callX hW (g_TwinBox b t hl) en11 (hP.1.past hW.below) rfl rfl rfl rfl ?_
    rintro _ Bs W ⟨s2, rfl, hN⟩ hW
    refine l_storeA hW 1 tyA39 rfl rfl rfl rfl rfl rfl (by first | rfl | exact kc_len _ | exact kcf_len _ | exact boC_len _ _ | (simp; done)) (by first | rfl | exact kc_len _ | exact kcf_len _ | exact boC_len _ _ | (simp; done)) (by first | exact kc_one _ | exact kcf_one _ | exact boC_one _ _ | (simp [Value.oneCell']; done)) ?_
    intro W hW
    refine l_end ?_
    refine n_then ?_
    refine c_seq ?_
    refine c_reg ?_
    refine l_val (r_fieldAddr 26 Try.underlying39 rfl tyC3.size rfl rfl rfl) rfl rfl ?_
    refine l_loadC hW 1 tyC3 rfl rfl rfl rfl rfl rfl ?_
    refine l_val (r_addZ rfl rfl rfl (by omega)) rfl rfl ?_
    refine l_val (r_fieldAddr 26 Try.underlying39 rfl tyC3.size rfl rfl rfl) rfl rfl ?_
    refine l_storeC hW 1 tyC3 (v := .int .i64 (b.a + 1)) rfl rfl rfl rfl rfl rfl (by rw [boC_len]; decide) rfl ?_
    intro W hW
    replace hW := (show Cl _ ([_, ⟨_, (boC b s2).set 26 (.int .i64 (b.a + 1)), _⟩] ++ Bs) _ from hW)
    rw [boC_setA] at hW
    refine l_end ?_
    refine n_then ?_
    refine c_seq ?_
    refine c_seq ?_
    refine c_reg ?_
    refine l_val (r_move (v := .int _ _) rfl rfl) rfl rfl ?_
    refine l_val (r_gtrN (n := 0) rfl rfl rfl rfl) rfl rfl ?_
    refine l_split ?_ ?_
    · intro hc6
      replace hc6 := of_decide_eq_true hc6
      refine l_val (r_move (v := .bool _) rfl rfl) rfl rfl ?_
      refine l_valG (r_move (v := .int _ _) rfl rfl) (by kernel_rfl) rfl ?_
      refine l_valG (r_gtrN (n := 0) rfl rfl rfl rfl) (by kernel_rfl) rfl ?_
      refine l_split ?_ ?_
      · intro hc7
        replace hc7 := of_decide_eq_true hc7
        refine l_val (r_pick (v := .bool _) rfl rfl rfl) rfl rfl ?_
        refine l_end ?_
        refine n_then ?_
        refine c_true rfl ?_
        refine c_reg ?_
        refine l_val (r_fieldAddr 27 Try.underlying39 rfl tyC3.size rfl rfl rfl) rfl rfl ?_
        refine l_loadC hW 1 tyC3 (v := .int .i64 b.x) rfl rfl rfl rfl rfl rfl ?_
        refine l_val (r_addZ rfl rfl rfl (by omega)) rfl rfl ?_
        refine l_val (r_fieldAddr 27 Try.underlying39 rfl tyC3.size rfl rfl rfl) rfl rfl ?_
        refine l_storeC hW 1 tyC3 (v := .int .i64 (b.x + 1)) rfl rfl rfl rfl rfl rfl (by rw [boC_len]; decide) rfl ?_
        intro W hW
        replace hW := (show Cl _ ([_, ⟨_, (boC { b with a := b.a + 1 } s2).set 27 (.int .i64 (b.x + 1)), _⟩] ++ Bs) _ from hW)
        rw [boC_setX] at hW
        refine l_end ?_
        refine n_then ?_
        refine c_seq ?_
        refine c_reg ?_
        have hax := after_p (b := b) (r := x.2.1) (w := x.2.2.1) ⟨by omega, by omega⟩
        obtain ⟨b1, hb1⟩ : ∃ b1, b1 = after b x.2.1 x.2.2.1 := ⟨_, rfl⟩
        have es : b1 = { b with a := b.a + 1, x := b.x + 1 } := hb1.trans hax
        have ev : b1.v = b.v := by rw [es]
        have en : b1.n = b.n := by rw [es]
        have em : b1.m = b.m := by rw [es]
        have ek : b1.k = b.k := by rw [es]
        have ex : b1.x = b.x + 1 := by rw [es]
        rw [← es] at hW
        have hbn : b1.n + 1 = ((b.n.toNat + 1 : Nat) : Int) := by omega
        refine l_val (r_fieldAddr 8 Try.underlying39 rfl tyC3.size rfl rfl rfl) rfl rfl ?_
        refine l_loadC hW 1 tyC3 rfl rfl rfl rfl rfl rfl ?_
        refine l_val (r_addZ rfl rfl rfl (by omega)) rfl rfl ?_
        refine l_val (r_assign (v := .int _ _) rfl rfl) rfl rfl ?_
        refine l_end ?_
        refine n_then ?_
        refine c_seq ?_
        refine c_seq ?_
        refine c_regY hW [] [.q, .q, .q, .q, .q, .q, .q, .q, .q, .q, .q, .q, .q, .q, .q, .q, .q, .q, .q, .q, .q, .q, .q, .q, .q, .q, .q, .q, .q, .q] [0, 1, 3, 7, 15, 31, 63, 127, 255, 127, 639, 2047, 4095, 8191, 16383, 32767, 65535, 32767, 32767, 425983, 950271, 32767, 2129919, 8388607, 32767, 32767, 50364415, 117473279, 268435455, 536870911] (by kernel_rfl) (by kernel_rfl) ?_
        refine y_val (r_move (v := .int _ _) rfl rfl) rfl rfl ?_
        refine y_val (r_eqlN (n := 0) rfl rfl rfl rfl) rfl rfl ?_
        refine y_split ?_ ?_
        · intro hc8
          replace hc8 := of_decide_eq_true hc8
          refine y_val (r_move (v := .bool _) rfl rfl) rfl rfl ?_
          refine y_not (by kernel_rfl) rfl ?_
          refine y_not (by kernel_rfl) rfl ?_
          refine y_not (by kernel_rfl) rfl ?_
          refine y_not (by kernel_rfl) rfl ?_
          refine y_not (by kernel_rfl) rfl ?_
          refine y_not (by kernel_rfl) rfl ?_
          refine y_not (by kernel_rfl) rfl ?_
          refine y_not (by kernel_rfl) rfl ?_
          refine y_not (by kernel_rfl) rfl ?_
          refine y_not (by kernel_rfl) rfl ?_
          refine y_val (r_pick (v := .bool _) rfl rfl rfl) rfl rfl ?_
          refine y_val (r_move (v := .bool _) rfl rfl) rfl rfl ?_
          refine y_not (by kernel_rfl) rfl ?_
          refine y_not (by kernel_rfl) rfl ?_
          refine y_not (by kernel_rfl) rfl ?_
          refine y_not (by kernel_rfl) rfl ?_
          refine y_not (by kernel_rfl) rfl ?_
          refine y_not (by kernel_rfl) rfl ?_
          refine y_not (by kernel_rfl) rfl ?_
          refine y_not (by kernel_rfl) rfl ?_
          refine y_not (by kernel_rfl) rfl ?_
          refine y_not (by kernel_rfl) rfl ?_
          refine y_not (by kernel_rfl) rfl ?_
          refine y_not (by kernel_rfl) rfl ?_
          refine y_not (by kernel_rfl) rfl ?_
          refine y_not (by kernel_rfl) rfl ?_
          refine y_val (r_pick (v := .bool _) rfl rfl rfl) rfl rfl ?_
          refine y_end ?_
          intro W hW
          refine n_then ?_
          refine c_true rfl ?_
          refine c_seq ?_
          refine c_reg ?_
          refine l_loadA hW 1 tyA39 rfl rfl rfl rfl rfl (by first | rfl | exact kc_len _ | exact kcf_len _ | exact boC_len _ _ | (simp; done)) ?_
          refine l_storeA hW 0 tyA39 rfl rfl rfl rfl rfl rfl (by first | rfl | exact kc_len _ | exact kcf_len _ | exact boC_len _ _ | (simp; done)) (by first | rfl | exact kc_len _ | exact kcf_len _ | exact boC_len _ _ | (simp; done)) (by first | exact kc_one _ | exact kcf_one _ | exact boC_one _ _ | (simp [Value.oneCell']; done)) ?_
          intro W hW
          refine l_val (r_assign (v := .bool _) rfl rfl) rfl rfl ?_
          refine l_end ?_
          refine n_then ?_
          refine c_ret ?_
          refine r_then ?_
          refine ret_cell_tmp hW 0 tyA39 rfl rfl rfl (by first | rfl | exact kc_len _ | exact kcf_len _ | exact boC_len _ _ | (simp; done)) rfl ?_
          have e1 : stp o f o.length = x.2 := by rw [show o.length = x.1 by omega]; exact hst
          have hv : askW b x.2.1 x.2.2.1 x.2.2.2 = _ := ask_no (by rw [← hb1]; omega)
          exact ⟨_, _, rfl, ⟨s2, by rw [askd, plays, e1, ← hb1, hv]; rfl, by rw [askd, after_l]; exact hN⟩, hW.drop 2⟩
        · intro hc8
          replace hc8 := of_decide_eq_false hc8
          refine y_val (r_move (v := .bool _) rfl rfl) rfl rfl ?_
          refine y_val (r_fieldAddr 9 Try.underlying39 rfl tyC3.size rfl rfl rfl) (by kernel_rfl) rfl ?_
          refine y_loadC 1 tyC3 (by kernel_rfl) rfl rfl rfl rfl rfl (by decide) ?_
          refine y_val (r_gtr rfl rfl rfl rfl) (by kernel_rfl) rfl ?_
          refine y_split ?_ ?_
          · intro hc9
            replace hc9 := of_decide_eq_true hc9
            refine y_val (r_move (v := .bool _) rfl rfl) (by kernel_rfl) rfl ?_
            refine y_val (r_fieldAddr 27 Try.underlying39 rfl tyC3.size rfl rfl rfl) (by kernel_rfl) rfl ?_
            refine y_loadC 1 tyC3 (by kernel_rfl) rfl rfl rfl rfl rfl (by decide) ?_
            refine y_val (r_fieldAddr 9 Try.underlying39 rfl tyC3.size rfl rfl rfl) (by kernel_rfl) rfl ?_
            refine y_loadC 1 tyC3 (by kernel_rfl) rfl rfl rfl rfl rfl (by decide) ?_
            refine y_val (r_gtr rfl rfl rfl rfl) (by kernel_rfl) rfl ?_
            refine y_split ?_ ?_
            · intro hc10
              replace hc10 := of_decide_eq_true hc10
              refine y_val (r_pick (v := .bool _) rfl rfl rfl) (by kernel_rfl) rfl ?_
              refine y_val (r_pick (v := .bool _) rfl rfl rfl) rfl rfl ?_
              refine y_val (r_move (v := .bool _) rfl rfl) rfl rfl ?_
              refine y_not (by kernel_rfl) rfl ?_
              refine y_not (by kernel_rfl) rfl ?_
              refine y_not (by kernel_rfl) rfl ?_
              refine y_not (by kernel_rfl) rfl ?_
              refine y_not (by kernel_rfl) rfl ?_
              refine y_not (by kernel_rfl) rfl ?_
              refine y_not (by kernel_rfl) rfl ?_
              refine y_not (by kernel_rfl) rfl ?_
              refine y_not (by kernel_rfl) rfl ?_
              refine y_not (by kernel_rfl) rfl ?_
              refine y_not (by kernel_rfl) rfl ?_
              refine y_not (by kernel_rfl) rfl ?_
              refine y_not (by kernel_rfl) rfl ?_
              refine y_not (by kernel_rfl) rfl ?_
              refine y_val (r_pick (v := .bool _) rfl rfl rfl) rfl rfl ?_
              refine y_end ?_
              intro W hW
              refine n_then ?_
              refine c_true rfl ?_
              refine c_seq ?_
              refine c_reg ?_
              refine l_loadA hW 1 tyA39 rfl rfl rfl rfl rfl (by first | rfl | exact kc_len _ | exact kcf_len _ | exact boC_len _ _ | (simp; done)) ?_
              refine l_storeA hW 0 tyA39 rfl rfl rfl rfl rfl rfl (by first | rfl | exact kc_len _ | exact kcf_len _ | exact boC_len _ _ | (simp; done)) (by first | rfl | exact kc_len _ | exact kcf_len _ | exact boC_len _ _ | (simp; done)) (by first | exact kc_one _ | exact kcf_one _ | exact boC_one _ _ | (simp [Value.oneCell']; done)) ?_
              intro W hW
              refine l_val (r_assign (v := .bool _) rfl rfl) rfl rfl ?_
              refine l_end ?_
              refine n_then ?_
              refine c_ret ?_
              refine r_then ?_
              refine ret_cell_tmp hW 0 tyA39 rfl rfl rfl (by first | rfl | exact kc_len _ | exact kcf_len _ | exact boC_len _ _ | (simp; done)) rfl ?_
              have e1 : stp o f o.length = x.2 := by rw [show o.length = x.1 by omega]; exact hst
              have hv : askW b x.2.1 x.2.2.1 x.2.2.2 = _ := ask_no (by rw [← hb1]; omega)
              exact ⟨_, _, rfl, ⟨s2, by rw [askd, plays, e1, ← hb1, hv]; rfl, by rw [askd, after_l]; exact hN⟩, hW.drop 2⟩
            · intro hc10
              replace hc10 := of_decide_eq_false hc10
              refine y_val (r_pick (v := .bool _) rfl rfl rfl) (by kernel_rfl) rfl ?_
              refine y_val (r_pick (v := .bool _) rfl rfl rfl) rfl rfl ?_
              refine y_val (r_move (v := .bool _) rfl rfl) rfl rfl ?_
              refine y_val (r_fieldAddr 10 Try.underlying39 rfl tyA37.size rfl rfl rfl) (by kernel_rfl) rfl ?_
              refine y_loadP 1 tyA37 (by kernel_rfl) rfl rfl rfl rfl (by rw [boC_len]; decide) (boC_key _ _) (by decide) ?_
              refine y_val (r_move (v := .int _ _) rfl rfl) (by kernel_rfl) rfl ?_
              refine y_val (r_move (v := .int _ _) rfl rfl) (by kernel_rfl) rfl ?_
              refine y_val (r_quoN (m := b.a.toNat) (n := b.n.toNat + 1) rfl (congrArg (Value.int .i64) ha) (congrArg (Value.int .i64) hbn) (by omega) (by omega)) (by kernel_rfl) rfl ?_
              refine y_val (r_conv_i64_u64 Try.underlying3 Try.underlying22 rfl rfl) (by kernel_rfl) rfl ?_
              refine y_val (r_move (v := .int _ _) rfl rfl) (by kernel_rfl) rfl ?_
              refine y_val (r_conv_i64_u64 (n := b.n.toNat + 1) Try.underlying3 Try.underlying22 rfl (congrArg (Value.int .i64) hbn)) (by kernel_rfl) rfl ?_
              refine y_call (g_rNumber _ _ _) en76 (by kernel_rfl) rfl rfl rfl ?_
              refine y_val (r_move (v := .int _ _) rfl rfl) (by kernel_rfl) rfl ?_
              refine y_val (r_move (v := .int _ _) rfl rfl) (by kernel_rfl) rfl ?_
              refine y_val (r_remN (m := b.a.toNat) (n := b.n.toNat + 1) rfl (congrArg (Value.int .i64) ha) (congrArg (Value.int .i64) hbn) (by omega)) (by kernel_rfl) rfl ?_
              refine y_val (r_conv_i64_u64 Try.underlying3 Try.underlying22 rfl rfl) (by kernel_rfl) rfl ?_
              refine y_val (r_neqN rfl rfl rfl rfl) (by kernel_rfl) rfl ?_
              refine y_split ?_ ?_
              · intro hc11
                replace hc11 := of_decide_eq_true hc11
                refine y_val (r_pick (v := .bool _) rfl rfl rfl) rfl rfl ?_
                refine y_end ?_
                intro W hW
                refine n_then ?_
                refine c_true rfl ?_
                refine c_seq ?_
                refine c_reg ?_
                refine l_loadA hW 1 tyA39 rfl rfl rfl rfl rfl (by first | rfl | exact kc_len _ | exact kcf_len _ | exact boC_len _ _ | (simp; done)) ?_
                refine l_storeA hW 0 tyA39 rfl rfl rfl rfl rfl rfl (by first | rfl | exact kc_len _ | exact kcf_len _ | exact boC_len _ _ | (simp; done)) (by first | rfl | exact kc_len _ | exact kcf_len _ | exact boC_len _ _ | (simp; done)) (by first | exact kc_one _ | exact kcf_one _ | exact boC_one _ _ | (simp [Value.oneCell']; done)) ?_
                intro W hW
                refine l_val (r_assign (v := .bool _) rfl rfl) rfl rfl ?_
                refine l_end ?_
                refine n_then ?_
                refine c_ret ?_
                refine r_then ?_
                refine ret_cell_tmp hW 0 tyA39 rfl rfl rfl (by first | rfl | exact kc_len _ | exact kcf_len _ | exact boC_len _ _ | (simp; done)) rfl ?_
                have e1 : stp o f o.length = x.2 := by rw [show o.length = x.1 by omega]; exact hst
                have hv : askW b x.2.1 x.2.2.1 x.2.2.2 = _ := ask_no (.inr (.inr (decide_eq_true (by rw [← ek]; exact hc11))))
                exact ⟨_, _, rfl, ⟨s2, by rw [askd, plays, e1, ← hb1, hv]; rfl, by rw [askd, after_l]; exact hN⟩, hW.drop 2⟩
              · intro hc11
                replace hc11 := of_decide_eq_false hc11
                refine y_val (r_pick (v := .bool _) rfl rfl rfl) rfl rfl ?_
                refine y_end ?_
                intro W hW
                refine n_then ?_
                refine c_false rfl ?_
                refine c_skip ?_
                refine n_then ?_
                refine c_seq ?_
                refine c_seq ?_
                refine c_reg ?_
                refine l_val (r_move (v := .int _ _) rfl rfl) rfl rfl ?_
                refine l_val (r_eqlN (n := 0) rfl rfl rfl rfl) rfl rfl ?_
                refine l_split ?_ ?_
                · intro hc12
                  replace hc12 := of_decide_eq_true hc12
                  refine l_end ?_
                  refine n_then ?_
                  refine c_true rfl ?_
                  refine c_seq ?_
                  refine c_reg ?_
                  refine l_loadA hW 1 tyA39 rfl rfl rfl rfl rfl (by first | rfl | exact kc_len _ | exact kcf_len _ | exact boC_len _ _ | (simp; done)) ?_
                  refine l_storeA hW 0 tyA39 rfl rfl rfl rfl rfl rfl (by first | rfl | exact kc_len _ | exact kcf_len _ | exact boC_len _ _ | (simp; done)) (by first | rfl | exact kc_len _ | exact kcf_len _ | exact boC_len _ _ | (simp; done)) (by first | exact kc_one _ | exact kcf_one _ | exact boC_one _ _ | (simp [Value.oneCell']; done)) ?_
                  intro W hW
                  refine l_val (r_assign (v := .bool _) rfl rfl) rfl rfl ?_
                  refine l_end ?_
                  refine n_then ?_
                  refine c_ret ?_
                  refine r_then ?_
                  refine ret_cell_tmp hW 0 tyA39 rfl rfl rfl (by first | rfl | exact kc_len _ | exact kcf_len _ | exact boC_len _ _ | (simp; done)) rfl ?_
                  have e1 : stp o f o.length = x.2 := by rw [show o.length = x.1 by omega]; exact hst
                  have hneg : ¬ (x.2.1 = 0 ∨ (0 < b.v ∧ b.v < (after b x.2.1 x.2.2.1).x) ∨ noiseB b = true) := by
                    rw [← hb1, show noiseB b = false from decide_eq_false (by rw [← ek]; exact hc11)]
                    rintro (h | ⟨h1, h2⟩ | h)
                    · omega
                    · omega
                    · cases h
                  have hv : askW b x.2.1 x.2.2.1 x.2.2.2 = _ := ask_y0 hneg (by omega)
                  exact ⟨_, _, rfl, ⟨s2, by rw [askd, plays, e1, ← hb1, hv]; rfl, by rw [askd, after_l]; exact hN⟩, hW.drop 2⟩
                · intro hc12
                  replace hc12 := of_decide_eq_false hc12
                  refine l_end ?_
                  refine n_then ?_
                  refine c_false rfl ?_
                  refine c_skip ?_
                  refine n_then ?_
                  refine c_seq ?_
                  refine c_seq ?_
                  refine c_reg ?_
                  refine l_val (r_fieldAddr 7 Try.underlying39 rfl tyC5.size rfl rfl rfl) rfl rfl ?_
                  refine l_loadC hW 1 tyC5 rfl rfl rfl rfl rfl rfl ?_
                  refine l_end ?_
                  refine n_then ?_
                  refine c_block ?_
                  refine c_seq ?_
                  refine c_reg ?_
                  refine l_val (r_eql rfl rfl rfl rfl) rfl rfl ?_
                  refine l_split ?_ ?_
                  · intro hc13
                    replace hc13 := of_decide_eq_true hc13
                    refine l_val (r_assign (v := .bool _) rfl rfl) rfl rfl ?_
                    refine l_end ?_
                    refine n_then ?_
                    refine c_true rfl ?_
                    refine c_seq ?_
                    refine c_reg ?_
                    refine l_loadA hW 1 tyA39 rfl rfl rfl rfl rfl (by first | rfl | exact kc_len _ | exact kcf_len _ | exact boC_len _ _ | (simp; done)) ?_
                    refine l_val (r_move (v := .bool _) rfl rfl) rfl rfl ?_
                    refine l_storeA hW 0 tyA39 rfl rfl rfl rfl rfl rfl (by first | rfl | exact kc_len _ | exact kcf_len _ | exact boC_len _ _ | (simp; done)) (by first | rfl | exact kc_len _ | exact kcf_len _ | exact boC_len _ _ | (simp; done)) (by first | exact kc_one _ | exact kcf_one _ | exact boC_one _ _ | (simp [Value.oneCell']; done)) ?_
                    intro W hW
                    refine l_val (r_assign (v := .bool _) rfl rfl) rfl rfl ?_
                    refine l_end ?_
                    refine n_then ?_
                    refine c_ret ?_
                    refine r_block ?_
                    refine r_then ?_
                    refine ret_cell_tmp hW 0 tyA39 rfl rfl rfl (by first | rfl | exact kc_len _ | exact kcf_len _ | exact boC_len _ _ | (simp; done)) rfl ?_
                    have e1 : stp o f o.length = x.2 := by rw [show o.length = x.1 by omega]; exact hst
                    have hneg : ¬ (x.2.1 = 0 ∨ (0 < b.v ∧ b.v < (after b x.2.1 x.2.2.1).x) ∨ noiseB b = true) := by
                      rw [← hb1, show noiseB b = false from decide_eq_false (by rw [← ek]; exact hc11)]
                      rintro (h | ⟨h1, h2⟩ | h)
                      · omega
                      · omega
                      · cases h
                    have hv : askW b x.2.1 x.2.2.1 x.2.2.2 = _ := (ask_w hneg (by omega)).trans (play_1 (by omega))
                    exact ⟨_, _, rfl, ⟨s2, by rw [askd, plays, e1, ← hb1, hv]; rfl, by rw [askd, after_l]; exact hN⟩, hW.drop 2⟩
                  · intro hc13
                    replace hc13 := of_decide_eq_false hc13
                    refine l_val (r_assign (v := .bool _) rfl rfl) rfl rfl ?_
                    refine l_end ?_
                    refine n_then ?_
                    refine c_false rfl ?_
                    refine c_seq ?_
                    refine c_reg ?_
                    refine l_val (r_eql rfl rfl rfl rfl) rfl rfl ?_
                    refine l_split ?_ ?_
                    · intro hc14
                      replace hc14 := of_decide_eq_true hc14
                      refine l_val (r_assign (v := .bool _) rfl rfl) rfl rfl ?_
                      refine l_end ?_
                      refine n_then ?_
                      refine c_true rfl ?_
                      refine c_seq ?_
                      refine c_reg ?_
                      refine l_loadA hW 1 tyA39 rfl rfl rfl rfl rfl (by first | rfl | exact kc_len _ | exact kcf_len _ | exact boC_len _ _ | (simp; done)) ?_
                      refine l_storeA hW 0 tyA39 rfl rfl rfl rfl rfl rfl (by first | rfl | exact kc_len _ | exact kcf_len _ | exact boC_len _ _ | (simp; done)) (by first | rfl | exact kc_len _ | exact kcf_len _ | exact boC_len _ _ | (simp; done)) (by first | exact kc_one _ | exact kcf_one _ | exact boC_one _ _ | (simp [Value.oneCell']; done)) ?_
                      intro W hW
                      refine l_val (r_assign (v := .bool _) rfl rfl) rfl rfl ?_
                      refine l_end ?_
                      refine n_then ?_
                      refine c_ret ?_
                      refine r_block ?_
                      refine r_then ?_
                      refine ret_cell_tmp hW 0 tyA39 rfl rfl rfl (by first | rfl | exact kc_len _ | exact kcf_len _ | exact boC_len _ _ | (simp; done)) rfl ?_
                      have e1 : stp o f o.length = x.2 := by rw [show o.length = x.1 by omega]; exact hst
                      have hneg : ¬ (x.2.1 = 0 ∨ (0 < b.v ∧ b.v < (after b x.2.1 x.2.2.1).x) ∨ noiseB b = true) := by
                        rw [← hb1, show noiseB b = false from decide_eq_false (by rw [← ek]; exact hc11)]
                        rintro (h | ⟨h1, h2⟩ | h)
                        · omega
                        · omega
                        · cases h
                      have hv : askW b x.2.1 x.2.2.1 x.2.2.2 = _ := (ask_w hneg (by omega)).trans (play_3 (by omega))
                      exact ⟨_, _, rfl, ⟨s2, by rw [askd, plays, e1, ← hb1, hv]; rfl, by rw [askd, after_l]; exact hN⟩, hW.drop 2⟩
                    · intro hc14
                      replace hc14 := of_decide_eq_false hc14
                      refine l_val (r_assign (v := .bool _) rfl rfl) rfl rfl ?_
                      refine l_end ?_
                      refine n_then ?_
                      refine c_false rfl ?_
                      refine c_seq ?_
                      refine c_reg ?_
                      refine l_val (r_eql rfl rfl rfl rfl) rfl rfl ?_
                      refine l_split ?_ ?_
                      · intro hc15
                        replace hc15 := of_decide_eq_true hc15
                        refine l_val (r_assign (v := .bool _) rfl rfl) rfl rfl ?_
                        refine l_end ?_
                        refine n_then ?_
                        refine c_true rfl ?_
                        refine c_seq ?_
                        refine c_regY hW [0] [.q, .q, .q, .q, .q, .q, .q, .q, .q, .q, .q, .s, .q] [0, 0, 2, 0, 8, 24, 0, 120, 248, 510, 1022, 1023, 4095] (by kernel_rfl) (by kernel_rfl) ?_
                        refine y_loadA 1 tyA39 rfl rfl rfl rfl rfl (by first | rfl | exact kc_len _ | exact kcf_len _ | exact boC_len _ _ | (simp; done)) (by decide) ?_
                        refine y_val (r_fieldAddr 10 Try.underlying39 rfl tyA37.size rfl rfl rfl) rfl rfl ?_
                        refine y_loadP 1 tyA37 (by kernel_rfl) rfl rfl rfl rfl (by rw [boC_len]; decide) (boC_key _ _) (by decide) ?_
                        refine y_val (r_move (v := .int _ _) rfl rfl) rfl rfl ?_
                        refine y_val (r_mulN (m := 64) rfl rfl rfl (by omega)) rfl rfl ?_
                        refine y_val (r_addN (m := 4294967296) rfl rfl rfl (by omega)) rfl rfl ?_
                        refine y_val (r_move (v := .int _ _) rfl rfl) rfl rfl ?_
                        refine y_val (r_addN rfl rfl rfl (by omega)) rfl rfl ?_
                        refine y_val (r_conv_i64_u64 Try.underlying3 Try.underlying22 rfl rfl) rfl rfl ?_
                        refine y_call (g_rNumber b1.k (BitVec.ofNat 64 (4294967296 + 64 * x.2.2.1 + x.2.1)) 2#64) en76 rfl rfl rfl rfl ?_
                        refine y_val (r_eql_u64 (y := 1#64) rfl rfl rfl rfl) rfl rfl ?_
                        refine y_storeA 0 tyA39 rfl rfl rfl rfl rfl rfl (by first | rfl | exact kc_len _ | exact kcf_len _ | exact boC_len _ _ | (simp; done)) (by first | rfl | exact kc_len _ | exact kcf_len _ | exact boC_len _ _ | (simp; done)) (by first | exact kc_one _ | exact kcf_one _ | exact boC_one _ _ | (simp [Value.oneCell']; done)) (by decide) ?_
                        refine y_val (r_assign (v := .bool _) rfl rfl) rfl rfl ?_
                        refine y_end ?_
                        intro W hW
                        refine n_then ?_
                        refine c_ret ?_
                        refine r_block ?_
                        refine r_then ?_
                        refine ret_cell_tmp hW 0 tyA39 rfl rfl rfl (by first | rfl | exact kc_len _ | exact kcf_len _ | exact boC_len _ _ | (simp; done)) rfl ?_
                        have e1 : stp o f o.length = x.2 := by rw [show o.length = x.1 by omega]; exact hst
                        have hneg : ¬ (x.2.1 = 0 ∨ (0 < b.v ∧ b.v < (after b x.2.1 x.2.2.1).x) ∨ noiseB b = true) := by
                          rw [← hb1, show noiseB b = false from decide_eq_false (by rw [← ek]; exact hc11)]
                          rintro (h | ⟨h1, h2⟩ | h)
                          · omega
                          · omega
                          · cases h
                        have hv : askW b x.2.1 x.2.2.1 x.2.2.2 = _ := (ask_w hneg (by omega)).trans (play_4 (by omega))
                        exact ⟨_, _, rfl, ⟨s2, by rw [askd, plays, e1, ← hb1, hv]; rw [oddB, ← ek]; rfl, by rw [askd, after_l]; exact hN⟩, hW.drop 2⟩
                      · intro hc15
                        replace hc15 := of_decide_eq_false hc15
                        refine l_val (r_assign (v := .bool _) rfl rfl) rfl rfl ?_
                        refine l_end ?_
                        refine n_then ?_
                        refine c_false rfl ?_
                        refine c_skip ?_
                        refine n_block ?_
                        refine n_then ?_
                        refine c_seq ?_
                        refine c_reg ?_
                        refine l_loadA hW 1 tyA39 rfl rfl rfl rfl rfl (by first | rfl | exact kc_len _ | exact kcf_len _ | exact boC_len _ _ | (simp; done)) ?_
                        refine l_storeA hW 0 tyA39 rfl rfl rfl rfl rfl rfl (by first | rfl | exact kc_len _ | exact kcf_len _ | exact boC_len _ _ | (simp; done)) (by first | rfl | exact kc_len _ | exact kcf_len _ | exact boC_len _ _ | (simp; done)) (by first | exact kc_one _ | exact kcf_one _ | exact boC_one _ _ | (simp [Value.oneCell']; done)) ?_
                        intro W hW
                        refine l_val (r_assign (v := .bool _) rfl rfl) rfl rfl ?_
                        refine l_end ?_
                        refine n_then ?_
                        refine c_ret ?_
                        refine ret_cell_tmp hW 0 tyA39 rfl rfl rfl (by first | rfl | exact kc_len _ | exact kcf_len _ | exact boC_len _ _ | (simp; done)) rfl ?_
                        have e1 : stp o f o.length = x.2 := by rw [show o.length = x.1 by omega]; exact hst
                        have hneg : ¬ (x.2.1 = 0 ∨ (0 < b.v ∧ b.v < (after b x.2.1 x.2.2.1).x) ∨ noiseB b = true) := by
                          rw [← hb1, show noiseB b = false from decide_eq_false (by rw [← ek]; exact hc11)]
                          rintro (h | ⟨h1, h2⟩ | h)
                          · omega
                          · omega
                          · cases h
                        have hv : askW b x.2.1 x.2.2.1 x.2.2.2 = _ := (ask_w hneg (by omega)).trans (play_2 (by omega) (by omega) (by omega))
                        exact ⟨_, _, rfl, ⟨s2, by rw [askd, plays, e1, ← hb1, hv]; rfl, by rw [askd, after_l]; exact hN⟩, hW.drop 2⟩
          · intro hc9
            replace hc9 := of_decide_eq_false hc9
            refine y_val (r_move (v := .bool _) rfl rfl) (by kernel_rfl) rfl ?_
            refine y_not (by kernel_rfl) rfl ?_
            refine y_not (by kernel_rfl) rfl ?_
            refine y_not (by kernel_rfl) rfl ?_
            refine y_not (by kernel_rfl) rfl ?_
            refine y_not (by kernel_rfl) rfl ?_
            refine y_val (r_pick (v := .bool _) rfl rfl rfl) (by kernel_rfl) rfl ?_
            refine y_val (r_pick (v := .bool _) rfl rfl rfl) rfl rfl ?_
            refine y_val (r_move (v := .bool _) rfl rfl) rfl rfl ?_
            refine y_val (r_fieldAddr 10 Try.underlying39 rfl tyA37.size rfl rfl rfl) (by kernel_rfl) rfl ?_
            refine y_loadP 1 tyA37 (by kernel_rfl) rfl rfl rfl rfl (by rw [boC_len]; decide) (boC_key _ _) (by decide) ?_
            refine y_val (r_move (v := .int _ _) rfl rfl) (by kernel_rfl) rfl ?_
            refine y_val (r_move (v := .int _ _) rfl rfl) (by kernel_rfl) rfl ?_
            refine y_val (r_quoN (m := b.a.toNat) (n := b.n.toNat + 1) rfl (congrArg (Value.int .i64) ha) (congrArg (Value.int .i64) hbn) (by omega) (by omega)) (by kernel_rfl) rfl ?_
            refine y_val (r_conv_i64_u64 Try.underlying3 Try.underlying22 rfl rfl) (by kernel_rfl) rfl ?_
            refine y_val (r_move (v := .int _ _) rfl rfl) (by kernel_rfl) rfl ?_
            refine y_val (r_conv_i64_u64 (n := b.n.toNat + 1) Try.underlying3 Try.underlying22 rfl (congrArg (Value.int .i64) hbn)) (by kernel_rfl) rfl ?_
            refine y_call (g_rNumber _ _ _) en76 (by kernel_rfl) rfl rfl rfl ?_
            refine y_val (r_move (v := .int _ _) rfl rfl) (by kernel_rfl) rfl ?_
            refine y_val (r_move (v := .int _ _) rfl rfl) (by kernel_rfl) rfl ?_
            refine y_val (r_remN (m := b.a.toNat) (n := b.n.toNat + 1) rfl (congrArg (Value.int .i64) ha) (congrArg (Value.int .i64) hbn) (by omega)) (by kernel_rfl) rfl ?_
            refine y_val (r_conv_i64_u64 Try.underlying3 Try.underlying22 rfl rfl) (by kernel_rfl) rfl ?_
            refine y_val (r_neqN rfl rfl rfl rfl) (by kernel_rfl) rfl ?_
            refine y_split ?_ ?_
            · intro hc16
              replace hc16 := of_decide_eq_true hc16
              refine y_val (r_pick (v := .bool _) rfl rfl rfl) rfl rfl ?_
              refine y_end ?_
              intro W hW
              refine n_then ?_
              refine c_true rfl ?_
              refine c_seq ?_
              refine c_reg ?_
              refine l_loadA hW 1 tyA39 rfl rfl rfl rfl rfl (by first | rfl | exact kc_len _ | exact kcf_len _ | exact boC_len _ _ | (simp; done)) ?_
              refine l_storeA hW 0 tyA39 rfl rfl rfl rfl rfl rfl (by first | rfl | exact kc_len _ | exact kcf_len _ | exact boC_len _ _ | (simp; done)) (by first | rfl | exact kc_len _ | exact kcf_len _ | exact boC_len _ _ | (simp; done)) (by first | exact kc_one _ | exact kcf_one _ | exact boC_one _ _ | (simp [Value.oneCell']; done)) ?_
              intro W hW
              refine l_val (r_assign (v := .bool _) rfl rfl) rfl rfl ?_
              refine l_end ?_
              refine n_then ?_
              refine c_ret ?_
              refine r_then ?_
              refine ret_cell_tmp hW 0 tyA39 rfl rfl rfl (by first | rfl | exact kc_len _ | exact kcf_len _ | exact boC_len _ _ | (simp; done)) rfl ?_
              have e1 : stp o f o.length = x.2 := by rw [show o.length = x.1 by omega]; exact hst
              have hv : askW b x.2.1 x.2.2.1 x.2.2.2 = _ := ask_no (.inr (.inr (decide_eq_true (by rw [← ek]; exact hc16))))
              exact ⟨_, _, rfl, ⟨s2, by rw [askd, plays, e1, ← hb1, hv]; rfl, by rw [askd, after_l]; exact hN⟩, hW.drop 2⟩
            · intro hc16
              replace hc16 := of_decide_eq_false hc16
              refine y_val (r_pick (v := .bool _) rfl rfl rfl) rfl rfl ?_
              refine y_end ?_
              intro W hW
              refine n_then ?_
              refine c_false rfl ?_
              refine c_skip ?_
              refine n_then ?_
              refine c_seq ?_
              refine c_seq ?_
              refine c_reg ?_
              refine l_val (r_move (v := .int _ _) rfl rfl) rfl rfl ?_
              refine l_val (r_eqlN (n := 0) rfl rfl rfl rfl) rfl rfl ?_
              refine l_split ?_ ?_
              · intro hc17
                replace hc17 := of_decide_eq_true hc17
                refine l_end ?_
                refine n_then ?_
                refine c_true rfl ?_
                refine c_seq ?_
                refine c_reg ?_
                refine l_loadA hW 1 tyA39 rfl rfl rfl rfl rfl (by first | rfl | exact kc_len _ | exact kcf_len _ | exact boC_len _ _ | (simp; done)) ?_
                refine l_storeA hW 0 tyA39 rfl rfl rfl rfl rfl rfl (by first | rfl | exact kc_len _ | exact kcf_len _ | exact boC_len _ _ | (simp; done)) (by first | rfl | exact kc_len _ | exact kcf_len _ | exact boC_len _ _ | (simp; done)) (by first | exact kc_one _ | exact kcf_one _ | exact boC_one _ _ | (simp [Value.oneCell']; done)) ?_
                intro W hW
                refine l_val (r_assign (v := .bool _) rfl rfl) rfl rfl ?_
                refine l_end ?_
                refine n_then ?_
                refine c_ret ?_
                refine r_then ?_
                refine ret_cell_tmp hW 0 tyA39 rfl rfl rfl (by first | rfl | exact kc_len _ | exact kcf_len _ | exact boC_len _ _ | (simp; done)) rfl ?_
                have e1 : stp o f o.length = x.2 := by rw [show o.length = x.1 by omega]; exact hst
                have hneg : ¬ (x.2.1 = 0 ∨ (0 < b.v ∧ b.v < (after b x.2.1 x.2.2.1).x) ∨ noiseB b = true) := by
                  rw [← hb1, show noiseB b = false from decide_eq_false (by rw [← ek]; exact hc16)]
                  rintro (h | ⟨h1, h2⟩ | h)
                  · omega
                  · omega
                  · cases h
                have hv : askW b x.2.1 x.2.2.1 x.2.2.2 = _ := ask_y0 hneg (by omega)
                exact ⟨_, _, rfl, ⟨s2, by rw [askd, plays, e1, ← hb1, hv]; rfl, by rw [askd, after_l]; exact hN⟩, hW.drop 2⟩
              · intro hc17
                replace hc17 := of_decide_eq_false hc17
                refine l_end ?_
                refine n_then ?_
                refine c_false rfl ?_
                refine c_skip ?_
                refine n_then ?_
                refine c_seq ?_
                refine c_seq ?_
                refine c_reg ?_
                refine l_val (r_fieldAddr 7 Try.underlying39 rfl tyC5.size rfl rfl rfl) rfl rfl ?_
                refine l_loadC hW 1 tyC5 rfl rfl rfl rfl rfl rfl ?_
                refine l_end ?_
                refine n_then ?_
                refine c_block ?_
                refine c_seq ?_
                refine c_reg ?_
                refine l_val (r_eql rfl rfl rfl rfl) rfl rfl ?_
                refine l_split ?_ ?_
                · intro hc18
                  replace hc18 := of_decide_eq_true hc18
                  refine l_val (r_assign (v := .bool _) rfl rfl) rfl rfl ?_
                  refine l_end ?_
                  refine n_then ?_
                  refine c_true rfl ?_
                  refine c_seq ?_
                  refine c_reg ?_
                  refine l_loadA hW 1 tyA39 rfl rfl rfl rfl rfl (by first | rfl | exact kc_len _ | exact kcf_len _ | exact boC_len _ _ | (simp; done)) ?_
                  refine l_val (r_move (v := .bool _) rfl rfl) rfl rfl ?_
                  refine l_storeA hW 0 tyA39 rfl rfl rfl rfl rfl rfl (by first | rfl | exact kc_len _ | exact kcf_len _ | exact boC_len _ _ | (simp; done)) (by first | rfl | exact kc_len _ | exact kcf_len _ | exact boC_len _ _ | (simp; done)) (by first | exact kc_one _ | exact kcf_one _ | exact boC_one _ _ | (simp [Value.oneCell']; done)) ?_
                  intro W hW
                  refine l_val (r_assign (v := .bool _) rfl rfl) rfl rfl ?_
                  refine l_end ?_
                  refine n_then ?_
                  refine c_ret ?_
                  refine r_block ?_
                  refine r_then ?_
                  refine ret_cell_tmp hW 0 tyA39 rfl rfl rfl (by first | rfl | exact kc_len _ | exact kcf_len _ | exact boC_len _ _ | (simp; done)) rfl ?_
                  have e1 : stp o f o.length = x.2 := by rw [show o.length = x.1 by omega]; exact hst
                  have hneg : ¬ (x.2.1 = 0 ∨ (0 < b.v ∧ b.v < (after b x.2.1 x.2.2.1).x) ∨ noiseB b = true) := by
                    rw [← hb1, show noiseB b = false from decide_eq_false (by rw [← ek]; exact hc16)]
                    rintro (h | ⟨h1, h2⟩ | h)
                    · omega
                    · omega
                    · cases h
                  have hv : askW b x.2.1 x.2.2.1 x.2.2.2 = _ := (ask_w hneg (by omega)).trans (play_1 (by omega))
                  exact ⟨_, _, rfl, ⟨s2, by rw [askd, plays, e1, ← hb1, hv]; rfl, by rw [askd, after_l]; exact hN⟩, hW.drop 2⟩
                · intro hc18
                  replace hc18 := of_decide_eq_false hc18
                  refine l_val (r_assign (v := .bool _) rfl rfl) rfl rfl ?_
                  refine l_end ?_
                  refine n_then ?_
                  refine c_false rfl ?_
                  refine c_seq ?_
                  refine c_reg ?_
                  refine l_val (r_eql rfl rfl rfl rfl) rfl rfl ?_
                  refine l_split ?_ ?_
                  · intro hc19
                    replace hc19 := of_decide_eq_true hc19
                    refine l_val (r_assign (v := .bool _) rfl rfl) rfl rfl ?_
                    refine l_end ?_
                    refine n_then ?_
                    refine c_true rfl ?_
                    refine c_seq ?_
                    refine c_reg ?_
                    refine l_loadA hW 1 tyA39 rfl rfl rfl rfl rfl (by first | rfl | exact kc_len _ | exact kcf_len _ | exact boC_len _ _ | (simp; done)) ?_
                    refine l_storeA hW 0 tyA39 rfl rfl rfl rfl rfl rfl (by first | rfl | exact kc_len _ | exact kcf_len _ | exact boC_len _ _ | (simp; done)) (by first | rfl | exact kc_len _ | exact kcf_len _ | exact boC_len _ _ | (simp; done)) (by first | exact kc_one _ | exact kcf_one _ | exact boC_one _ _ | (simp [Value.oneCell']; done)) ?_
                    intro W hW
                    refine l_val (r_assign (v := .bool _) rfl rfl) rfl rfl ?_
                    refine l_end ?_
                    refine n_then ?_
                    refine c_ret ?_
                    refine r_block ?_
                    refine r_then ?_
                    refine ret_cell_tmp hW 0 tyA39 rfl rfl rfl (by first | rfl | exact kc_len _ | exact kcf_len _ | exact boC_len _ _ | (simp; done)) rfl ?_
                    have e1 : stp o f o.length = x.2 := by rw [show o.length = x.1 by omega]; exact hst
                    have hneg : ¬ (x.2.1 = 0 ∨ (0 < b.v ∧ b.v < (after b x.2.1 x.2.2.1).x) ∨ noiseB b = true) := by
                      rw [← hb1, show noiseB b = false from decide_eq_false (by rw [← ek]; exact hc16)]
                      rintro (h | ⟨h1, h2⟩ | h)
                      · omega
                      · omega
                      · cases h
                    have hv : askW b x.2.1 x.2.2.1 x.2.2.2 = _ := (ask_w hneg (by omega)).trans (play_3 (by omega))
                    exact ⟨_, _, rfl, ⟨s2, by rw [askd, plays, e1, ← hb1, hv]; rfl, by rw [askd, after_l]; exact hN⟩, hW.drop 2⟩
                  · intro hc19
                    replace hc19 := of_decide_eq_false hc19
                    refine l_val (r_assign (v := .bool _) rfl rfl) rfl rfl ?_
                    refine l_end ?_
                    refine n_then ?_
                    refine c_false rfl ?_
                    refine c_seq ?_
                    refine c_reg ?_
                    refine l_val (r_eql rfl rfl rfl rfl) rfl rfl ?_
                    refine l_split ?_ ?_
                    · intro hc20
                      replace hc20 := of_decide_eq_true hc20
                      refine l_val (r_assign (v := .bool _) rfl rfl) rfl rfl ?_
                      refine l_end ?_
                      refine n_then ?_
                      refine c_true rfl ?_
                      refine c_seq ?_
                      refine c_regY hW [0] [.q, .q, .q, .q, .q, .q, .q, .q, .q, .q, .q, .s, .q] [0, 0, 2, 0, 8, 24, 0, 120, 248, 510, 1022, 1023, 4095] (by kernel_rfl) (by kernel_rfl) ?_
                      refine y_loadA 1 tyA39 rfl rfl rfl rfl rfl (by first | rfl | exact kc_len _ | exact kcf_len _ | exact boC_len _ _ | (simp; done)) (by decide) ?_
                      refine y_val (r_fieldAddr 10 Try.underlying39 rfl tyA37.size rfl rfl rfl) rfl rfl ?_
                      refine y_loadP 1 tyA37 (by kernel_rfl) rfl rfl rfl rfl (by rw [boC_len]; decide) (boC_key _ _) (by decide) ?_
                      refine y_val (r_move (v := .int _ _) rfl rfl) rfl rfl ?_
                      refine y_val (r_mulN (m := 64) rfl rfl rfl (by omega)) rfl rfl ?_
                      refine y_val (r_addN (m := 4294967296) rfl rfl rfl (by omega)) rfl rfl ?_
                      refine y_val (r_move (v := .int _ _) rfl rfl) rfl rfl ?_
                      refine y_val (r_addN rfl rfl rfl (by omega)) rfl rfl ?_
                      refine y_val (r_conv_i64_u64 Try.underlying3 Try.underlying22 rfl rfl) rfl rfl ?_
                      refine y_call (g_rNumber b1.k (BitVec.ofNat 64 (4294967296 + 64 * x.2.2.1 + x.2.1)) 2#64) en76 rfl rfl rfl rfl ?_
                      refine y_val (r_eql_u64 (y := 1#64) rfl rfl rfl rfl) rfl rfl ?_
                      refine y_storeA 0 tyA39 rfl rfl rfl rfl rfl rfl (by first | rfl | exact kc_len _ | exact kcf_len _ | exact boC_len _ _ | (simp; done)) (by first | rfl | exact kc_len _ | exact kcf_len _ | exact boC_len _ _ | (simp; done)) (by first | exact kc_one _ | exact kcf_one _ | exact boC_one _ _ | (simp [Value.oneCell']; done)) (by decide) ?_
                      refine y_val (r_assign (v := .bool _) rfl rfl) rfl rfl ?_
                      refine y_end ?_
                      intro W hW
                      refine n_then ?_
                      refine c_ret ?_
                      refine r_block ?_
                      refine r_then ?_
                      refine ret_cell_tmp hW 0 tyA39 rfl rfl rfl (by first | rfl | exact kc_len _ | exact kcf_len _ | exact boC_len _ _ | (simp; done)) rfl ?_
                      have e1 : stp o f o.length = x.2 := by rw [show o.length = x.1 by omega]; exact hst
                      have hneg : ¬ (x.2.1 = 0 ∨ (0 < b.v ∧ b.v < (after b x.2.1 x.2.2.1).x) ∨ noiseB b = true) := by
                        rw [← hb1, show noiseB b = false from decide_eq_false (by rw [← ek]; exact hc16)]
                        rintro (h | ⟨h1, h2⟩ | h)
                        · omega
                        · omega
                        · cases h
                      have hv : askW b x.2.1 x.2.2.1 x.2.2.2 = _ := (ask_w hneg (by omega)).trans (play_4 (by omega))
                      exact ⟨_, _, rfl, ⟨s2, by rw [askd, plays, e1, ← hb1, hv]; rw [oddB, ← ek]; rfl, by rw [askd, after_l]; exact hN⟩, hW.drop 2⟩
                    · intro hc20
                      replace hc20 := of_decide_eq_false hc20
                      refine l_val (r_assign (v := .bool _) rfl rfl) rfl rfl ?_
                      refine l_end ?_
                      refine n_then ?_
                      refine c_false rfl ?_
                      refine c_skip ?_
                      refine n_block ?_
                      refine n_then ?_
                      refine c_seq ?_
                      refine c_reg ?_
                      refine l_loadA hW 1 tyA39 rfl rfl rfl rfl rfl (by first | rfl | exact kc_len _ | exact kcf_len _ | exact boC_len _ _ | (simp; done)) ?_
                      refine l_storeA hW 0 tyA39 rfl rfl rfl rfl rfl rfl (by first | rfl | exact kc_len _ | exact kcf_len _ | exact boC_len _ _ | (simp; done)) (by first | rfl | exact kc_len _ | exact kcf_len _ | exact boC_len _ _ | (simp; done)) (by first | exact kc_one _ | exact kcf_one _ | exact boC_one _ _ | (simp [Value.oneCell']; done)) ?_
                      intro W hW
                      refine l_val (r_assign (v := .bool _) rfl rfl) rfl rfl ?_
                      refine l_end ?_
                      refine n_then ?_
                      refine c_ret ?_
                      refine ret_cell_tmp hW 0 tyA39 rfl rfl rfl (by first | rfl | exact kc_len _ | exact kcf_len _ | exact boC_len _ _ | (simp; done)) rfl ?_
                      have e1 : stp o f o.length = x.2 := by rw [show o.length = x.1 by omega]; exact hst
                      have hneg : ¬ (x.2.1 = 0 ∨ (0 < b.v ∧ b.v < (after b x.2.1 x.2.2.1).x) ∨ noiseB b = true) := by
                        rw [← hb1, show noiseB b = false from decide_eq_false (by rw [← ek]; exact hc16)]
                        rintro (h | ⟨h1, h2⟩ | h)
                        · omega
                        · omega
                        · cases h
                      have hv : askW b x.2.1 x.2.2.1 x.2.2.2 = _ := (ask_w hneg (by omega)).trans (play_2 (by omega) (by omega) (by omega))
                      exact ⟨_, _, rfl, ⟨s2, by rw [askd, plays, e1, ← hb1, hv]; rfl, by rw [askd, after_l]; exact hN⟩, hW.drop 2⟩
      · intro hc7
        replace hc7 := of_decide_eq_false hc7
        refine l_val (r_pick (v := .bool _) rfl rfl rfl) rfl rfl ?_
        refine l_end ?_
        refine n_then ?_
        refine c_false rfl ?_
        refine c_skip ?_
        refine n_then ?_
        refine c_seq ?_
        refine c_reg ?_
        have hax := after_n (b := b) (r := x.2.1) (w := x.2.2.1) (by omega)
        obtain ⟨b1, hb1⟩ : ∃ b1, b1 = after b x.2.1 x.2.2.1 := ⟨_, rfl⟩
        have es : b1 = { b with a := b.a + 1 } := hb1.trans hax
        have ev : b1.v = b.v := by rw [es]
        have en : b1.n = b.n := by rw [es]
        have em : b1.m = b.m := by rw [es]
        have ek : b1.k = b.k := by rw [es]
        have ex : b1.x = b.x := by rw [es]
        rw [← es] at hW
        have hbn : b1.n + 1 = ((b.n.toNat + 1 : Nat) : Int) := by omega
        refine l_val (r_fieldAddr 8 Try.underlying39 rfl tyC3.size rfl rfl rfl) rfl rfl ?_
        refine l_loadC hW 1 tyC3 rfl rfl rfl rfl rfl rfl ?_
        refine l_val (r_addZ rfl rfl rfl (by omega)) rfl rfl ?_
        refine l_val (r_assign (v := .int _ _) rfl rfl) rfl rfl ?_
        refine l_end ?_
        refine n_then ?_
        refine c_seq ?_
        refine c_seq ?_
        refine c_regY hW [] [.q, .q, .q, .q, .q, .q, .q, .q, .q, .q, .q, .q, .q, .q, .q, .q, .q, .q, .q, .q, .q, .q, .q, .q, .q, .q, .q, .q, .q, .q] [0, 1, 3, 7, 15, 31, 63, 127, 255, 127, 639, 2047, 4095, 8191, 16383, 32767, 65535, 32767, 32767, 425983, 950271, 32767, 2129919, 8388607, 32767, 32767, 50364415, 117473279, 268435455, 536870911] (by kernel_rfl) (by kernel_rfl) ?_
        refine y_val (r_move (v := .int _ _) rfl rfl) rfl rfl ?_
        refine y_val (r_eqlN (n := 0) rfl rfl rfl rfl) rfl rfl ?_
        refine y_split ?_ ?_
        · intro hc21
          replace hc21 := of_decide_eq_true hc21
          refine y_val (r_move (v := .bool _) rfl rfl) rfl rfl ?_
          refine y_not (by kernel_rfl) rfl ?_
          refine y_not (by kernel_rfl) rfl ?_
          refine y_not (by kernel_rfl) rfl ?_
          refine y_not (by kernel_rfl) rfl ?_
          refine y_not (by kernel_rfl) rfl ?_
          refine y_not (by kernel_rfl) rfl ?_
          refine y_not (by kernel_rfl) rfl ?_
          refine y_not (by kernel_rfl) rfl ?_
          refine y_not (by kernel_rfl) rfl ?_
          refine y_not (by kernel_rfl) rfl ?_
          refine y_val (r_pick (v := .bool _) rfl rfl rfl) rfl rfl ?_
          refine y_val (r_move (v := .bool _) rfl rfl) rfl rfl ?_
          refine y_not (by kernel_rfl) rfl ?_
          refine y_not (by kernel_rfl) rfl ?_
          refine y_not (by kernel_rfl) rfl ?_
          refine y_not (by kernel_rfl) rfl ?_
          refine y_not (by kernel_rfl) rfl ?_
          refine y_not (by kernel_rfl) rfl ?_
          refine y_not (by kernel_rfl) rfl ?_
          refine y_not (by kernel_rfl) rfl ?_
          refine y_not (by kernel_rfl) rfl ?_
          refine y_not (by kernel_rfl) rfl ?_
          refine y_not (by kernel_rfl) rfl ?_
          refine y_not (by kernel_rfl) rfl ?_
          refine y_not (by kernel_rfl) rfl ?_
          refine y_not (by kernel_rfl) rfl ?_
          refine y_val (r_pick (v := .bool _) rfl rfl rfl) rfl rfl ?_
          refine y_end ?_
          intro W hW
          refine n_then ?_
          refine c_true rfl ?_
          refine c_seq ?_
          refine c_reg ?_
          refine l_loadA hW 1 tyA39 rfl rfl rfl rfl rfl (by first | rfl | exact kc_len _ | exact kcf_len _ | exact boC_len _ _ | (simp; done)) ?_
          refine l_storeA hW 0 tyA39 rfl rfl rfl rfl rfl rfl (by first | rfl | exact kc_len _ | exact kcf_len _ | exact boC_len _ _ | (simp; done)) (by first | rfl | exact kc_len _ | exact kcf_len _ | exact boC_len _ _ | (simp; done)) (by first | exact kc_one _ | exact kcf_one _ | exact boC_one _ _ | (simp [Value.oneCell']; done)) ?_
          intro W hW
          refine l_val (r_assign (v := .bool _) rfl rfl) rfl rfl ?_
          refine l_end ?_
          refine n_then ?_
          refine c_ret ?_
          refine r_then ?_
          refine ret_cell_tmp hW 0 tyA39 rfl rfl rfl (by first | rfl | exact kc_len _ | exact kcf_len _ | exact boC_len _ _ | (simp; done)) rfl ?_
          have e1 : stp o f o.length = x.2 := by rw [show o.length = x.1 by omega]; exact hst
          have hv : askW b x.2.1 x.2.2.1 x.2.2.2 = _ := ask_no (by rw [← hb1]; omega)
          exact ⟨_, _, rfl, ⟨s2, by rw [askd, plays, e1, ← hb1, hv]; rfl, by rw [askd, after_l]; exact hN⟩, hW.drop 2⟩
        · intro hc21
          replace hc21 := of_decide_eq_false hc21
          refine y_val (r_move (v := .bool _) rfl rfl) rfl rfl ?_
          refine y_val (r_fieldAddr 9 Try.underlying39 rfl tyC3.size rfl rfl rfl) (by kernel_rfl) rfl ?_
          refine y_loadC 1 tyC3 (by kernel_rfl) rfl rfl rfl rfl rfl (by decide) ?_
          refine y_val (r_gtr rfl rfl rfl rfl) (by kernel_rfl) rfl ?_
          refine y_split ?_ ?_
          · intro hc22
            replace hc22 := of_decide_eq_true hc22
            refine y_val (r_move (v := .bool _) rfl rfl) (by kernel_rfl) rfl ?_
            refine y_val (r_fieldAddr 27 Try.underlying39 rfl tyC3.size rfl rfl rfl) (by kernel_rfl) rfl ?_
            refine y_loadC 1 tyC3 (by kernel_rfl) rfl rfl rfl rfl rfl (by decide) ?_
            refine y_val (r_fieldAddr 9 Try.underlying39 rfl tyC3.size rfl rfl rfl) (by kernel_rfl) rfl ?_
            refine y_loadC 1 tyC3 (by kernel_rfl) rfl rfl rfl rfl rfl (by decide) ?_
            refine y_val (r_gtr rfl rfl rfl rfl) (by kernel_rfl) rfl ?_
            refine y_split ?_ ?_
            · intro hc23
              replace hc23 := of_decide_eq_true hc23
              refine y_val (r_pick (v := .bool _) rfl rfl rfl) (by kernel_rfl) rfl ?_
              refine y_val (r_pick (v := .bool _) rfl rfl rfl) rfl rfl ?_
              refine y_val (r_move (v := .bool _) rfl rfl) rfl rfl ?_
              refine y_not (by kernel_rfl) rfl ?_
              refine y_not (by kernel_rfl) rfl ?_
              refine y_not (by kernel_rfl) rfl ?_
              refine y_not (by kernel_rfl) rfl ?_
              refine y_not (by kernel_rfl) rfl ?_
              refine y_not (by kernel_rfl) rfl ?_
              refine y_not (by kernel_rfl) rfl ?_
              refine y_not (by kernel_rfl) rfl ?_
              refine y_not (by kernel_rfl) rfl ?_
              refine y_not (by kernel_rfl) rfl ?_
              refine y_not (by kernel_rfl) rfl ?_
              refine y_not (by kernel_rfl) rfl ?_
              refine y_not (by kernel_rfl) rfl ?_
              refine y_not (by kernel_rfl) rfl ?_
              refine y_val (r_pick (v := .bool _) rfl rfl rfl) rfl rfl ?_
              refine y_end ?_
              intro W hW
              refine n_then ?_
              refine c_true rfl ?_
              refine c_seq ?_
              refine c_reg ?_
              refine l_loadA hW 1 tyA39 rfl rfl rfl rfl rfl (by first | rfl | exact kc_len _ | exact kcf_len _ | exact boC_len _ _ | (simp; done)) ?_
              refine l_storeA hW 0 tyA39 rfl rfl rfl rfl rfl rfl (by first | rfl | exact kc_len _ | exact kcf_len _ | exact boC_len _ _ | (simp; done)) (by first | rfl | exact kc_len _ | exact kcf_len _ | exact boC_len _ _ | (simp; done)) (by first | exact kc_one _ | exact kcf_one _ | exact boC_one _ _ | (simp [Value.oneCell']; done)) ?_
              intro W hW
              refine l_val (r_assign (v := .bool _) rfl rfl) rfl rfl ?_
              refine l_end ?_
              refine n_then ?_
              refine c_ret ?_
              refine r_then ?_
              refine ret_cell_tmp hW 0 tyA39 rfl rfl rfl (by first | rfl | exact kc_len _ | exact kcf_len _ | exact boC_len _ _ | (simp; done)) rfl ?_
              have e1 : stp o f o.length = x.2 := by rw [show o.length = x.1 by omega]; exact hst
              have hv : askW b x.2.1 x.2.2.1 x.2.2.2 = _ := ask_no (by rw [← hb1]; omega)
              exact ⟨_, _, rfl, ⟨s2, by rw [askd, plays, e1, ← hb1, hv]; rfl, by rw [askd, after_l]; exact hN⟩, hW.drop 2⟩
            · intro hc23
              replace hc23 := of_decide_eq_false hc23
              refine y_val (r_pick (v := .bool _) rfl rfl rfl) (by kernel_rfl) rfl ?_
              refine y_val (r_pick (v := .bool _) rfl rfl rfl) rfl rfl ?_
              refine y_val (r_move (v := .bool _) rfl rfl) rfl rfl ?_
              refine y_val (r_fieldAddr 10 Try.underlying39 rfl tyA37.size rfl rfl rfl) (by kernel_rfl) rfl ?_
              refine y_loadP 1 tyA37 (by kernel_rfl) rfl rfl rfl rfl (by rw [boC_len]; decide) (boC_key _ _) (by decide) ?_
              refine y_val (r_move (v := .int _ _) rfl rfl) (by kernel_rfl) rfl ?_
              refine y_val (r_move (v := .int _ _) rfl rfl) (by kernel_rfl) rfl ?_
              refine y_val (r_quoN (m := b.a.toNat) (n := b.n.toNat + 1) rfl (congrArg (Value.int .i64) ha) (congrArg (Value.int .i64) hbn) (by omega) (by omega)) (by kernel_rfl) rfl ?_
              refine y_val (r_conv_i64_u64 Try.underlying3 Try.underlying22 rfl rfl) (by kernel_rfl) rfl ?_
              refine y_val (r_move (v := .int _ _) rfl rfl) (by kernel_rfl) rfl ?_
              refine y_val (r_conv_i64_u64 (n := b.n.toNat + 1) Try.underlying3 Try.underlying22 rfl (congrArg (Value.int .i64) hbn)) (by kernel_rfl) rfl ?_
              refine y_call (g_rNumber _ _ _) en76 (by kernel_rfl) rfl rfl rfl ?_
              refine y_val (r_move (v := .int _ _) rfl rfl) (by kernel_rfl) rfl ?_
              refine y_val (r_move (v := .int _ _) rfl rfl) (by kernel_rfl) rfl ?_
              refine y_val (r_remN (m := b.a.toNat) (n := b.n.toNat + 1) rfl (congrArg (Value.int .i64) ha) (congrArg (Value.int .i64) hbn) (by omega)) (by kernel_rfl) rfl ?_
              refine y_val (r_conv_i64_u64 Try.underlying3 Try.underlying22 rfl rfl) (by kernel_rfl) rfl ?_
              refine y_val (r_neqN rfl rfl rfl rfl) (by kernel_rfl) rfl ?_
              refine y_split ?_ ?_
              · intro hc24
                replace hc24 := of_decide_eq_true hc24
                refine y_val (r_pick (v := .bool _) rfl rfl rfl) rfl rfl ?_
                refine y_end ?_
                intro W hW
                refine n_then ?_
                refine c_true rfl ?_
                refine c_seq ?_
                refine c_reg ?_
                refine l_loadA hW 1 tyA39 rfl rfl rfl rfl rfl (by first | rfl | exact kc_len _ | exact kcf_len _ | exact boC_len _ _ | (simp; done)) ?_
                refine l_storeA hW 0 tyA39 rfl rfl rfl rfl rfl rfl (by first | rfl | exact kc_len _ | exact kcf_len _ | exact boC_len _ _ | (simp; done)) (by first | rfl | exact kc_len _ | exact kcf_len _ | exact boC_len _ _ | (simp; done)) (by first | exact kc_one _ | exact kcf_one _ | exact boC_one _ _ | (simp [Value.oneCell']; done)) ?_
                intro W hW
                refine l_val (r_assign (v := .bool _) rfl rfl) rfl rfl ?_
                refine l_end ?_
                refine n_then ?_
                refine c_ret ?_
                refine r_then ?_
                refine ret_cell_tmp hW 0 tyA39 rfl rfl rfl (by first | rfl | exact kc_len _ | exact kcf_len _ | exact boC_len _ _ | (simp; done)) rfl ?_
                have e1 : stp o f o.length = x.2 := by rw [show o.length = x.1 by omega]; exact hst
                have hv : askW b x.2.1 x.2.2.1 x.2.2.2 = _ := ask_no (.inr (.inr (decide_eq_true (by rw [← ek]; exact hc24))))
                exact ⟨_, _, rfl, ⟨s2, by rw [askd, plays, e1, ← hb1, hv]; rfl, by rw [askd, after_l]; exact hN⟩, hW.drop 2⟩
              · intro hc24
                replace hc24 := of_decide_eq_false hc24
                refine y_val (r_pick (v := .bool _) rfl rfl rfl) rfl rfl ?_
                refine y_end ?_
                intro W hW
                refine n_then ?_
                refine c_false rfl ?_
                refine c_skip ?_
                refine n_then ?_
                refine c_seq ?_
                refine c_seq ?_
                refine c_reg ?_
                refine l_val (r_move (v := .int _ _) rfl rfl) rfl rfl ?_
                refine l_val (r_eqlN (n := 0) rfl rfl rfl rfl) rfl rfl ?_
                refine l_split ?_ ?_
                · intro hc25
                  replace hc25 := of_decide_eq_true hc25
                  refine l_end ?_
                  refine n_then ?_
                  refine c_true rfl ?_
                  refine c_seq ?_
                  refine c_reg ?_
                  refine l_loadA hW 1 tyA39 rfl rfl rfl rfl rfl (by first | rfl | exact kc_len _ | exact kcf_len _ | exact boC_len _ _ | (simp; done)) ?_
                  refine l_storeA hW 0 tyA39 rfl rfl rfl rfl rfl rfl (by first | rfl | exact kc_len _ | exact kcf_len _ | exact boC_len _ _ | (simp; done)) (by first | rfl | exact kc_len _ | exact kcf_len _ | exact boC_len _ _ | (simp; done)) (by first | exact kc_one _ | exact kcf_one _ | exact boC_one _ _ | (simp [Value.oneCell']; done)) ?_
                  intro W hW
                  refine l_val (r_assign (v := .bool _) rfl rfl) rfl rfl ?_
                  refine l_end ?_
                  refine n_then ?_
                  refine c_ret ?_
                  refine r_then ?_
                  refine ret_cell_tmp hW 0 tyA39 rfl rfl rfl (by first | rfl | exact kc_len _ | exact kcf_len _ | exact boC_len _ _ | (simp; done)) rfl ?_
                  have e1 : stp o f o.length = x.2 := by rw [show o.length = x.1 by omega]; exact hst
                  have hneg : ¬ (x.2.1 = 0 ∨ (0 < b.v ∧ b.v < (after b x.2.1 x.2.2.1).x) ∨ noiseB b = true) := by
                    rw [← hb1, show noiseB b = false from decide_eq_false (by rw [← ek]; exact hc24)]
                    rintro (h | ⟨h1, h2⟩ | h)
                    · omega
                    · omega
                    · cases h
                  have hv : askW b x.2.1 x.2.2.1 x.2.2.2 = _ := ask_y0 hneg (by omega)
                  exact ⟨_, _, rfl, ⟨s2, by rw [askd, plays, e1, ← hb1, hv]; rfl, by rw [askd, after_l]; exact hN⟩, hW.drop 2⟩
                · intro hc25
                  replace hc25 := of_decide_eq_false hc25
                  refine l_end ?_
                  refine n_then ?_
                  refine c_false rfl ?_
                  refine c_skip ?_
                  refine n_then ?_
                  refine c_seq ?_
                  refine c_seq ?_
                  refine c_reg ?_
                  refine l_val (r_fieldAddr 7 Try.underlying39 rfl tyC5.size rfl rfl rfl) rfl rfl ?_
                  refine l_loadC hW 1 tyC5 rfl rfl rfl rfl rfl rfl ?_
                  refine l_end ?_
                  refine n_then ?_
                  refine c_block ?_
                  refine c_seq ?_
                  refine c_reg ?_
                  refine l_val (r_eql rfl rfl rfl rfl) rfl rfl ?_
                  refine l_split ?_ ?_
                  · intro hc26
                    replace hc26 := of_decide_eq_true hc26
                    refine l_val (r_assign (v := .bool _) rfl rfl) rfl rfl ?_
                    refine l_end ?_
                    refine n_then ?_
                    refine c_true rfl ?_
                    refine c_seq ?_
                    refine c_reg ?_
                    refine l_loadA hW 1 tyA39 rfl rfl rfl rfl rfl (by first | rfl | exact kc_len _ | exact kcf_len _ | exact boC_len _ _ | (simp; done)) ?_
                    refine l_val (r_move (v := .bool _) rfl rfl) rfl rfl ?_
                    refine l_storeA hW 0 tyA39 rfl rfl rfl rfl rfl rfl (by first | rfl | exact kc_len _ | exact kcf_len _ | exact boC_len _ _ | (simp; done)) (by first | rfl | exact kc_len _ | exact kcf_len _ | exact boC_len _ _ | (simp; done)) (by first | exact kc_one _ | exact kcf_one _ | exact boC_one _ _ | (simp [Value.oneCell']; done)) ?_
                    intro W hW
                    refine l_val (r_assign (v := .bool _) rfl rfl) rfl rfl ?_
                    refine l_end ?_
                    refine n_then ?_
                    refine c_ret ?_
                    refine r_block ?_
                    refine r_then ?_
                    refine ret_cell_tmp hW 0 tyA39 rfl rfl rfl (by first | rfl | exact kc_len _ | exact kcf_len _ | exact boC_len _ _ | (simp; done)) rfl ?_
                    have e1 : stp o f o.length = x.2 := by rw [show o.length = x.1 by omega]; exact hst
                    have hneg : ¬ (x.2.1 = 0 ∨ (0 < b.v ∧ b.v < (after b x.2.1 x.2.2.1).x) ∨ noiseB b = true) := by
                      rw [← hb1, show noiseB b = false from decide_eq_false (by rw [← ek]; exact hc24)]
                      rintro (h | ⟨h1, h2⟩ | h)
                      · omega
                      · omega
                      · cases h
                    have hv : askW b x.2.1 x.2.2.1 x.2.2.2 = _ := (ask_w hneg (by omega)).trans (play_1 (by omega))
                    exact ⟨_, _, rfl, ⟨s2, by rw [askd, plays, e1, ← hb1, hv]; rfl, by rw [askd, after_l]; exact hN⟩, hW.drop 2⟩
                  · intro hc26
                    replace hc26 := of_decide_eq_false hc26
                    refine l_val (r_assign (v := .bool _) rfl rfl) rfl rfl ?_
                    refine l_end ?_
                    refine n_then ?_
                    refine c_false rfl ?_
                    refine c_seq ?_
                    refine c_reg ?_
                    refine l_val (r_eql rfl rfl rfl rfl) rfl rfl ?_
                    refine l_split ?_ ?_
                    · intro hc27
                      replace hc27 := of_decide_eq_true hc27
                      refine l_val (r_assign (v := .bool _) rfl rfl) rfl rfl ?_
                      refine l_end ?_
                      refine n_then ?_
                      refine c_true rfl ?_
                      refine c_seq ?_
                      refine c_reg ?_
                      refine l_loadA hW 1 tyA39 rfl rfl rfl rfl rfl (by first | rfl | exact kc_len _ | exact kcf_len _ | exact boC_len _ _ | (simp; done)) ?_
                      refine l_storeA hW 0 tyA39 rfl rfl rfl rfl rfl rfl (by first | rfl | exact kc_len _ | exact kcf_len _ | exact boC_len _ _ | (simp; done)) (by first | rfl | exact kc_len _ | exact kcf_len _ | exact boC_len _ _ | (simp; done)) (by first | exact kc_one _ | exact kcf_one _ | exact boC_one _ _ | (simp [Value.oneCell']; done)) ?_
                      intro W hW
                      refine l_val (r_assign (v := .bool _) rfl rfl) rfl rfl ?_
                      refine l_end ?_
                      refine n_then ?_
                      refine c_ret ?_
                      refine r_block ?_
                      refine r_then ?_
                      refine ret_cell_tmp hW 0 tyA39 rfl rfl rfl (by first | rfl | exact kc_len _ | exact kcf_len _ | exact boC_len _ _ | (simp; done)) rfl ?_
                      have e1 : stp o f o.length = x.2 := by rw [show o.length = x.1 by omega]; exact hst
                      have hneg : ¬ (x.2.1 = 0 ∨ (0 < b.v ∧ b.v < (after b x.2.1 x.2.2.1).x) ∨ noiseB b = true) := by
                        rw [← hb1, show noiseB b = false from decide_eq_false (by rw [← ek]; exact hc24)]
                        rintro (h | ⟨h1, h2⟩ | h)
                        · omega
                        · omega
                        · cases h
                      have hv : askW b x.2.1 x.2.2.1 x.2.2.2 = _ := (ask_w hneg (by omega)).trans (play_3 (by omega))
                      exact ⟨_, _, rfl, ⟨s2, by rw [askd, plays, e1, ← hb1, hv]; rfl, by rw [askd, after_l]; exact hN⟩, hW.drop 2⟩
                    · intro hc27
                      replace hc27 := of_decide_eq_false hc27
                      refine l_val (r_assign (v := .bool _) rfl rfl) rfl rfl ?_
                      refine l_end ?_
                      refine n_then ?_
                      refine c_false rfl ?_
                      refine c_seq ?_
                      refine c_reg ?_
                      refine l_val (r_eql rfl rfl rfl rfl) rfl rfl ?_
                      refine l_split ?_ ?_
                      · intro hc28
                        replace hc28 := of_decide_eq_true hc28
                        refine l_val (r_assign (v := .bool _) rfl rfl) rfl rfl ?_
                        refine l_end ?_
                        refine n_then ?_
                        refine c_true rfl ?_
                        refine c_seq ?_
                        refine c_regY hW [0] [.q, .q, .q, .q, .q, .q, .q, .q, .q, .q, .q, .s, .q] [0, 0, 2, 0, 8, 24, 0, 120, 248, 510, 1022, 1023, 4095] (by kernel_rfl) (by kernel_rfl) ?_
                        refine y_loadA 1 tyA39 rfl rfl rfl rfl rfl (by first | rfl | exact kc_len _ | exact kcf_len _ | exact boC_len _ _ | (simp; done)) (by decide) ?_
                        refine y_val (r_fieldAddr 10 Try.underlying39 rfl tyA37.size rfl rfl rfl) rfl rfl ?_
                        refine y_loadP 1 tyA37 (by kernel_rfl) rfl rfl rfl rfl (by rw [boC_len]; decide) (boC_key _ _) (by decide) ?_
                        refine y_val (r_move (v := .int _ _) rfl rfl) rfl rfl ?_
                        refine y_val (r_mulN (m := 64) rfl rfl rfl (by omega)) rfl rfl ?_
                        refine y_val (r_addN (m := 4294967296) rfl rfl rfl (by omega)) rfl rfl ?_
                        refine y_val (r_move (v := .int _ _) rfl rfl) rfl rfl ?_
                        refine y_val (r_addN rfl rfl rfl (by omega)) rfl rfl ?_
                        refine y_val (r_conv_i64_u64 Try.underlying3 Try.underlying22 rfl rfl) rfl rfl ?_
                        refine y_call (g_rNumber b1.k (BitVec.ofNat 64 (4294967296 + 64 * x.2.2.1 + x.2.1)) 2#64) en76 rfl rfl rfl rfl ?_
                        refine y_val (r_eql_u64 (y := 1#64) rfl rfl rfl rfl) rfl rfl ?_
                        refine y_storeA 0 tyA39 rfl rfl rfl rfl rfl rfl (by first | rfl | exact kc_len _ | exact kcf_len _ | exact boC_len _ _ | (simp; done)) (by first | rfl | exact kc_len _ | exact kcf_len _ | exact boC_len _ _ | (simp; done)) (by first | exact kc_one _ | exact kcf_one _ | exact boC_one _ _ | (simp [Value.oneCell']; done)) (by decide) ?_
                        refine y_val (r_assign (v := .bool _) rfl rfl) rfl rfl ?_
                        refine y_end ?_
                        intro W hW
                        refine n_then ?_
                        refine c_ret ?_
                        refine r_block ?_
                        refine r_then ?_
                        refine ret_cell_tmp hW 0 tyA39 rfl rfl rfl (by first | rfl | exact kc_len _ | exact kcf_len _ | exact boC_len _ _ | (simp; done)) rfl ?_
                        have e1 : stp o f o.length = x.2 := by rw [show o.length = x.1 by omega]; exact hst
                        have hneg : ¬ (x.2.1 = 0 ∨ (0 < b.v ∧ b.v < (after b x.2.1 x.2.2.1).x) ∨ noiseB b = true) := by
                          rw [← hb1, show noiseB b = false from decide_eq_false (by rw [← ek]; exact hc24)]
                          rintro (h | ⟨h1, h2⟩ | h)
                          · omega
                          · omega
                          · cases h
                        have hv : askW b x.2.1 x.2.2.1 x.2.2.2 = _ := (ask_w hneg (by omega)).trans (play_4 (by omega))
                        exact ⟨_, _, rfl, ⟨s2, by rw [askd, plays, e1, ← hb1, hv]; rw [oddB, ← ek]; rfl, by rw [askd, after_l]; exact hN⟩, hW.drop 2⟩
                      · intro hc28
                        replace hc28 := of_decide_eq_false hc28
                        refine l_val (r_assign (v := .bool _) rfl rfl) rfl rfl ?_
                        refine l_end ?_
                        refine n_then ?_
                        refine c_false rfl ?_
                        refine c_skip ?_
                        refine n_block ?_
                        refine n_then ?_
                        refine c_seq ?_
                        refine c_reg ?_
                        refine l_loadA hW 1 tyA39 rfl rfl rfl rfl rfl (by first | rfl | exact kc_len _ | exact kcf_len _ | exact boC_len _ _ | (simp; done)) ?_
                        refine l_storeA hW 0 tyA39 rfl rfl rfl rfl rfl rfl (by first | rfl | exact kc_len _ | exact kcf_len _ | exact boC_len _ _ | (simp; done)) (by first | rfl | exact kc_len _ | exact kcf_len _ | exact boC_len _ _ | (simp; done)) (by first | exact kc_one _ | exact kcf_one _ | exact boC_one _ _ | (simp [Value.oneCell']; done)) ?_
                        intro W hW
                        refine l_val (r_assign (v := .bool _) rfl rfl) rfl rfl ?_
                        refine l_end ?_
                        refine n_then ?_
                        refine c_ret ?_
                        refine ret_cell_tmp hW 0 tyA39 rfl rfl rfl (by first | rfl | exact kc_len _ | exact kcf_len _ | exact boC_len _ _ | (simp; done)) rfl ?_
                        have e1 : stp o f o.length = x.2 := by rw [show o.length = x.1 by omega]; exact hst
                        have hneg : ¬ (x.2.1 = 0 ∨ (0 < b.v ∧ b.v < (after b x.2.1 x.2.2.1).x) ∨ noiseB b = true) := by
                          rw [← hb1, show noiseB b = false from decide_eq_false (by rw [← ek]; exact hc24)]
                          rintro (h | ⟨h1, h2⟩ | h)
                          · omega
                          · omega
                          · cases h
                        have hv : askW b x.2.1 x.2.2.1 x.2.2.2 = _ := (ask_w hneg (by omega)).trans (play_2 (by omega) (by omega) (by omega))
                        exact ⟨_, _, rfl, ⟨s2, by rw [askd, plays, e1, ← hb1, hv]; rfl, by rw [askd, after_l]; exact hN⟩, hW.drop 2⟩
          · intro hc22
            replace hc22 := of_decide_eq_false hc22
            refine y_val (r_move (v := .bool _) rfl rfl) (by kernel_rfl) rfl ?_
            refine y_not (by kernel_rfl) rfl ?_
            refine y_not (by kernel_rfl) rfl ?_
            refine y_not (by kernel_rfl) rfl ?_
            refine y_not (by kernel_rfl) rfl ?_
            refine y_not (by kernel_rfl) rfl ?_
            refine y_val (r_pick (v := .bool _) rfl rfl rfl) (by kernel_rfl) rfl ?_
            refine y_val (r_pick (v := .bool _) rfl rfl rfl) rfl rfl ?_
            refine y_val (r_move (v := .bool _) rfl rfl) rfl rfl ?_
            refine y_val (r_fieldAddr 10 Try.underlying39 rfl tyA37.size rfl rfl rfl) (by kernel_rfl) rfl ?_
            refine y_loadP 1 tyA37 (by kernel_rfl) rfl rfl rfl rfl (by rw [boC_len]; decide) (boC_key _ _) (by decide) ?_
            refine y_val (r_move (v := .int _ _) rfl rfl) (by kernel_rfl) rfl ?_
            refine y_val (r_move (v := .int _ _) rfl rfl) (by kernel_rfl) rfl ?_
            refine y_val (r_quoN (m := b.a.toNat) (n := b.n.toNat + 1) rfl (congrArg (Value.int .i64) ha) (congrArg (Value.int .i64) hbn) (by omega) (by omega)) (by kernel_rfl) rfl ?_
            refine y_val (r_conv_i64_u64 Try.underlying3 Try.underlying22 rfl rfl) (by kernel_rfl) rfl ?_
            refine y_val (r_move (v := .int _ _) rfl rfl) (by kernel_rfl) rfl ?_
            refine y_val (r_conv_i64_u64 (n := b.n.toNat + 1) Try.underlying3 Try.underlying22 rfl (congrArg (Value.int .i64) hbn)) (by kernel_rfl) rfl ?_
            refine y_call (g_rNumber _ _ _) en76 (by kernel_rfl) rfl rfl rfl ?_
            refine y_val (r_move (v := .int _ _) rfl rfl) (by kernel_rfl) rfl ?_
            refine y_val (r_move (v := .int _ _) rfl rfl) (by kernel_rfl) rfl ?_
            refine y_val (r_remN (m := b.a.toNat) (n := b.n.toNat + 1) rfl (congrArg (Value.int .i64) ha) (congrArg (Value.int .i64) hbn) (by omega)) (by kernel_rfl) rfl ?_
            refine y_val (r_conv_i64_u64 Try.underlying3 Try.underlying22 rfl rfl) (by kernel_rfl) rfl ?_
            refine y_val (r_neqN rfl rfl rfl rfl) (by kernel_rfl) rfl ?_
            refine y_split ?_ ?_
            · intro hc29
              replace hc29 := of_decide_eq_true hc29
              refine y_val (r_pick (v := .bool _) rfl rfl rfl) rfl rfl ?_
              refine y_end ?_
              intro W hW
              refine n_then ?_
              refine c_true rfl ?_
              refine c_seq ?_
              refine c_reg ?_
              refine l_loadA hW 1 tyA39 rfl rfl rfl rfl rfl (by first | rfl | exact kc_len _ | exact kcf_len _ | exact boC_len _ _ | (simp; done)) ?_
              refine l_storeA hW 0 tyA39 rfl rfl rfl rfl rfl rfl (by first | rfl | exact kc_len _ | exact kcf_len _ | exact boC_len _ _ | (simp; done)) (by first | rfl | exact kc_len _ | exact kcf_len _ | exact boC_len _ _ | (simp; done)) (by first | exact kc_one _ | exact kcf_one _ | exact boC_one _ _ | (simp [Value.oneCell']; done)) ?_
              intro W hW
              refine l_val (r_assign (v := .bool _) rfl rfl) rfl rfl ?_
              refine l_end ?_
              refine n_then ?_
              refine c_ret ?_
              refine r_then ?_
              refine ret_cell_tmp hW 0 tyA39 rfl rfl rfl (by first | rfl | exact kc_len _ | exact kcf_len _ | exact boC_len _ _ | (simp; done)) rfl ?_
              have e1 : stp o f o.length = x.2 := by rw [show o.length = x.1 by omega]; exact hst
              have hv : askW b x.2.1 x.2.2.1 x.2.2.2 = _ := ask_no (.inr (.inr (decide_eq_true (by rw [← ek]; exact hc29))))
              exact ⟨_, _, rfl, ⟨s2, by rw [askd, plays, e1, ← hb1, hv]; rfl, by rw [askd, after_l]; exact hN⟩, hW.drop 2⟩
            · intro hc29
              replace hc29 := of_decide_eq_false hc29
              refine y_val (r_pick (v := .bool _) rfl rfl rfl) rfl rfl ?_
              refine y_end ?_
              intro W hW
              refine n_then ?_
              refine c_false rfl ?_
              refine c_skip ?_
              refine n_then ?_
              refine c_seq ?_
              refine c_seq ?_
              refine c_reg ?_
              refine l_val (r_move (v := .int _ _) rfl rfl) rfl rfl ?_
              refine l_val (r_eqlN (n := 0) rfl rfl rfl rfl) rfl rfl ?_
              refine l_split ?_ ?_
              · intro hc30
                replace hc30 := of_decide_eq_true hc30
                refine l_end ?_
                refine n_then ?_
                refine c_true rfl ?_
                refine c_seq ?_
                refine c_reg ?_
                refine l_loadA hW 1 tyA39 rfl rfl rfl rfl rfl (by first | rfl | exact kc_len _ | exact kcf_len _ | exact boC_len _ _ | (simp; done)) ?_
                refine l_storeA hW 0 tyA39 rfl rfl rfl rfl rfl rfl (by first | rfl | exact kc_len _ | exact kcf_len _ | exact boC_len _ _ | (simp; done)) (by first | rfl | exact kc_len _ | exact kcf_len _ | exact boC_len _ _ | (simp; done)) (by first | exact kc_one _ | exact kcf_one _ | exact boC_one _ _ | (simp [Value.oneCell']; done)) ?_
                intro W hW
                refine l_val (r_assign (v := .bool _) rfl rfl) rfl rfl ?_
                refine l_end ?_
                refine n_then ?_
                refine c_ret ?_
                refine r_then ?_
                refine ret_cell_tmp hW 0 tyA39 rfl rfl rfl (by first | rfl | exact kc_len _ | exact kcf_len _ | exact boC_len _ _ | (simp; done)) rfl ?_
                have e1 : stp o f o.length = x.2 := by rw [show o.length = x.1 by omega]; exact hst
                have hneg : ¬ (x.2.1 = 0 ∨ (0 < b.v ∧ b.v < (after b x.2.1 x.2.2.1).x) ∨ noiseB b = true) := by
                  rw [← hb1, show noiseB b = false from decide_eq_false (by rw [← ek]; exact hc29)]
                  rintro (h | ⟨h1, h2⟩ | h)
                  · omega
                  · omega
                  · cases h
                have hv : askW b x.2.1 x.2.2.1 x.2.2.2 = _ := ask_y0 hneg (by omega)
                exact ⟨_, _, rfl, ⟨s2, by rw [askd, plays, e1, ← hb1, hv]; rfl, by rw [askd, after_l]; exact hN⟩, hW.drop 2⟩
              · intro hc30
                replace hc30 := of_decide_eq_false hc30
                refine l_end ?_
                refine n_then ?_
                refine c_false rfl ?_
                refine c_skip ?_
                refine n_then ?_
                refine c_seq ?_
                refine c_seq ?_
                refine c_reg ?_
                refine l_val (r_fieldAddr 7 Try.underlying39 rfl tyC5.size rfl rfl rfl) rfl rfl ?_
                refine l_loadC hW 1 tyC5 rfl rfl rfl rfl rfl rfl ?_
                refine l_end ?_
                refine n_then ?_
                refine c_block ?_
                refine c_seq ?_
                refine c_reg ?_
                refine l_val (r_eql rfl rfl rfl rfl) rfl rfl ?_
                refine l_split ?_ ?_
                · intro hc31
                  replace hc31 := of_decide_eq_true hc31
                  refine l_val (r_assign (v := .bool _) rfl rfl) rfl rfl ?_
                  refine l_end ?_
                  refine n_then ?_
                  refine c_true rfl ?_
                  refine c_seq ?_
                  refine c_reg ?_
                  refine l_loadA hW 1 tyA39 rfl rfl rfl rfl rfl (by first | rfl | exact kc_len _ | exact kcf_len _ | exact boC_len _ _ | (simp; done)) ?_
                  refine l_val (r_move (v := .bool _) rfl rfl) rfl rfl ?_
                  refine l_storeA hW 0 tyA39 rfl rfl rfl rfl rfl rfl (by first | rfl | exact kc_len _ | exact kcf_len _ | exact boC_len _ _ | (simp; done)) (by first | rfl | exact kc_len _ | exact kcf_len _ | exact boC_len _ _ | (simp; done)) (by first | exact kc_one _ | exact kcf_one _ | exact boC_one _ _ | (simp [Value.oneCell']; done)) ?_
                  intro W hW
                  refine l_val (r_assign (v := .bool _) rfl rfl) rfl rfl ?_
                  refine l_end ?_
                  refine n_then ?_
                  refine c_ret ?_
                  refine r_block ?_
                  refine r_then ?_
                  refine ret_cell_tmp hW 0 tyA39 rfl rfl rfl (by first | rfl | exact kc_len _ | exact kcf_len _ | exact boC_len _ _ | (simp; done)) rfl ?_
                  have e1 : stp o f o.length = x.2 := by rw [show o.length = x.1 by omega]; exact hst
                  have hneg : ¬ (x.2.1 = 0 ∨ (0 < b.v ∧ b.v < (after b x.2.1 x.2.2.1).x) ∨ noiseB b = true) := by
                    rw [← hb1, show noiseB b = false from decide_eq_false (by rw [← ek]; exact hc29)]
                    rintro (h | ⟨h1, h2⟩ | h)
                    · omega
                    · omega
                    · cases h
                  have hv : askW b x.2.1 x.2.2.1 x.2.2.2 = _ := (ask_w hneg (by omega)).trans (play_1 (by omega))
                  exact ⟨_, _, rfl, ⟨s2, by rw [askd, plays, e1, ← hb1, hv]; rfl, by rw [askd, after_l]; exact hN⟩, hW.drop 2⟩
                · intro hc31
                  replace hc31 := of_decide_eq_false hc31
                  refine l_val (r_assign (v := .bool _) rfl rfl) rfl rfl ?_
                  refine l_end ?_
                  refine n_then ?_
                  refine c_false rfl ?_
                  refine c_seq ?_
                  refine c_reg ?_
                  refine l_val (r_eql rfl rfl rfl rfl) rfl rfl ?_
                  refine l_split ?_ ?_
                  · intro hc32
                    replace hc32 := of_decide_eq_true hc32
                    refine l_val (r_assign (v := .bool _) rfl rfl) rfl rfl ?_
                    refine l_end ?_
                    refine n_then ?_
                    refine c_true rfl ?_
                    refine c_seq ?_
                    refine c_reg ?_
                    refine l_loadA hW 1 tyA39 rfl rfl rfl rfl rfl (by first | rfl | exact kc_len _ | exact kcf_len _ | exact boC_len _ _ | (simp; done)) ?_
                    refine l_storeA hW 0 tyA39 rfl rfl rfl rfl rfl rfl (by first | rfl | exact kc_len _ | exact kcf_len _ | exact boC_len _ _ | (simp; done)) (by first | rfl | exact kc_len _ | exact kcf_len _ | exact boC_len _ _ | (simp; done)) (by first | exact kc_one _ | exact kcf_one _ | exact boC_one _ _ | (simp [Value.oneCell']; done)) ?_
                    intro W hW
                    refine l_val (r_assign (v := .bool _) rfl rfl) rfl rfl ?_
                    refine l_end ?_
                    refine n_then ?_
                    refine c_ret ?_
                    refine r_block ?_
                    refine r_then ?_
                    refine ret_cell_tmp hW 0 tyA39 rfl rfl rfl (by first | rfl | exact kc_len _ | exact kcf_len _ | exact boC_len _ _ | (simp; done)) rfl ?_
                    have e1 : stp o f o.length = x.2 := by rw [show o.length = x.1 by omega]; exact hst
                    have hneg : ¬ (x.2.1 = 0 ∨ (0 < b.v ∧ b.v < (after b x.2.1 x.2.2.1).x) ∨ noiseB b = true) := by
                      rw [← hb1, show noiseB b = false from decide_eq_false (by rw [← ek]; exact hc29)]
                      rintro (h | ⟨h1, h2⟩ | h)
                      · omega
                      · omega
                      · cases h
                    have hv : askW b x.2.1 x.2.2.1 x.2.2.2 = _ := (ask_w hneg (by omega)).trans (play_3 (by omega))
                    exact ⟨_, _, rfl, ⟨s2, by rw [askd, plays, e1, ← hb1, hv]; rfl, by rw [askd, after_l]; exact hN⟩, hW.drop 2⟩
                  · intro hc32
                    replace hc32 := of_decide_eq_false hc32
                    refine l_val (r_assign (v := .bool _) rfl rfl) rfl rfl ?_
                    refine l_end ?_
                    refine n_then ?_
                    refine c_false rfl ?_
                    refine c_seq ?_
                    refine c_reg ?_
                    refine l_val (r_eql rfl rfl rfl rfl) rfl rfl ?_
                    refine l_split ?_ ?_
                    · intro hc33
                      replace hc33 := of_decide_eq_true hc33
                      refine l_val (r_assign (v := .bool _) rfl rfl) rfl rfl ?_
                      refine l_end ?_
                      refine n_then ?_
                      refine c_true rfl ?_
                      refine c_seq ?_
                      refine c_regY hW [0] [.q, .q, .q, .q, .q, .q, .q, .q, .q, .q, .q, .s, .q] [0, 0, 2, 0, 8, 24, 0, 120, 248, 510, 1022, 1023, 4095] (by kernel_rfl) (by kernel_rfl) ?_
                      refine y_loadA 1 tyA39 rfl rfl rfl rfl rfl (by first | rfl | exact kc_len _ | exact kcf_len _ | exact boC_len _ _ | (simp; done)) (by decide) ?_
                      refine y_val (r_fieldAddr 10 Try.underlying39 rfl tyA37.size rfl rfl rfl) rfl rfl ?_
                      refine y_loadP 1 tyA37 (by kernel_rfl) rfl rfl rfl rfl (by rw [boC_len]; decide) (boC_key _ _) (by decide) ?_
                      refine y_val (r_move (v := .int _ _) rfl rfl) rfl rfl ?_
                      refine y_val (r_mulN (m := 64) rfl rfl rfl (by omega)) rfl rfl ?_
                      refine y_val (r_addN (m := 4294967296) rfl rfl rfl (by omega)) rfl rfl ?_
                      refine y_val (r_move (v := .int _ _) rfl rfl) rfl rfl ?_
                      refine y_val (r_addN rfl rfl rfl (by omega)) rfl rfl ?_
                      refine y_val (r_conv_i64_u64 Try.underlying3 Try.underlying22 rfl rfl) rfl rfl ?_
                      refine y_call (g_rNumber b1.k (BitVec.ofNat 64 (4294967296 + 64 * x.2.2.1 + x.2.1)) 2#64) en76 rfl rfl rfl rfl ?_
                      refine y_val (r_eql_u64 (y := 1#64) rfl rfl rfl rfl) rfl rfl ?_
                      refine y_storeA 0 tyA39 rfl rfl rfl rfl rfl rfl (by first | rfl | exact kc_len _ | exact kcf_len _ | exact boC_len _ _ | (simp; done)) (by first | rfl | exact kc_len _ | exact kcf_len _ | exact boC_len _ _ | (simp; done)) (by first | exact kc_one _ | exact kcf_one _ | exact boC_one _ _ | (simp [Value.oneCell']; done)) (by decide) ?_
                      refine y_val (r_assign (v := .bool _) rfl rfl) rfl rfl ?_
                      refine y_end ?_
                      intro W hW
                      refine n_then ?_
                      refine c_ret ?_
                      refine r_block ?_
                      refine r_then ?_
                      refine ret_cell_tmp hW 0 tyA39 rfl rfl rfl (by first | rfl | exact kc_len _ | exact kcf_len _ | exact boC_len _ _ | (simp; done)) rfl ?_
                      have e1 : stp o f o.length = x.2 := by rw [show o.length = x.1 by omega]; exact hst
                      have hneg : ¬ (x.2.1 = 0 ∨ (0 < b.v ∧ b.v < (after b x.2.1 x.2.2.1).x) ∨ noiseB b = true) := by
                        rw [← hb1, show noiseB b = false from decide_eq_false (by rw [← ek]; exact hc29)]
                        rintro (h | ⟨h1, h2⟩ | h)
                        · omega
                        · omega
                        · cases h
                      have hv : askW b x.2.1 x.2.2.1 x.2.2.2 = _ := (ask_w hneg (by omega)).trans (play_4 (by omega))
                      exact ⟨_, _, rfl, ⟨s2, by rw [askd, plays, e1, ← hb1, hv]; rw [oddB, ← ek]; rfl, by rw [askd, after_l]; exact hN⟩, hW.drop 2⟩
                    · intro hc33
                      replace hc33 := of_decide_eq_false hc33
                      refine l_val (r_assign (v := .bool _) rfl rfl) rfl rfl ?_
                      refine l_end ?_
                      refine n_then ?_
                      refine c_false rfl ?_
                      refine c_skip ?_
                      refine n_block ?_
                      refine n_then ?_
                      refine c_seq ?_
                      refine c_reg ?_
                      refine l_loadA hW 1 tyA39 rfl rfl rfl rfl rfl (by first | rfl | exact kc_len _ | exact kcf_len _ | exact boC_len _ _ | (simp; done)) ?_
                      refine l_storeA hW 0 tyA39 rfl rfl rfl rfl rfl rfl (by first | rfl | exact kc_len _ | exact kcf_len _ | exact boC_len _ _ | (simp; done)) (by first | rfl | exact kc_len _ | exact kcf_len _ | exact boC_len _ _ | (simp; done)) (by first | exact kc_one _ | exact kcf_one _ | exact boC_one _ _ | (simp [Value.oneCell']; done)) ?_
                      intro W hW
                      refine l_val (r_assign (v := .bool _) rfl rfl) rfl rfl ?_
                      refine l_end ?_
                      refine n_then ?_
                      refine c_ret ?_
                      refine ret_cell_tmp hW 0 tyA39 rfl rfl rfl (by first | rfl | exact kc_len _ | exact kcf_len _ | exact boC_len _ _ | (simp; done)) rfl ?_
                      have e1 : stp o f o.length = x.2 := by rw [show o.length = x.1 by omega]; exact hst
                      have hneg : ¬ (x.2.1 = 0 ∨ (0 < b.v ∧ b.v < (after b x.2.1 x.2.2.1).x) ∨ noiseB b = true) := by
                        rw [← hb1, show noiseB b = false from decide_eq_false (by rw [← ek]; exact hc29)]
                        rintro (h | ⟨h1, h2⟩ | h)
                        · omega
                        · omega
                        · cases h
                      have hv : askW b x.2.1 x.2.2.1 x.2.2.2 = _ := (ask_w hneg (by omega)).trans (play_2 (by omega) (by omega) (by omega))
                      exact ⟨_, _, rfl, ⟨s2, by rw [askd, plays, e1, ← hb1, hv]; rfl, by rw [askd, after_l]; exact hN⟩, hW.drop 2⟩
    · intro hc6
      replace hc6 := of_decide_eq_false hc6
      refine l_val (r_move (v := .bool _) rfl rfl) rfl rfl ?_
      refine l_not (by kernel_rfl) rfl ?_
      refine l_not (by kernel_rfl) rfl ?_
      refine l_val (r_pick (v := .bool _) rfl rfl rfl) rfl rfl ?_
      refine l_end ?_
      refine n_then ?_
      refine c_false rfl ?_
      refine c_skip ?_
      refine n_then ?_
      refine c_seq ?_
      refine c_reg ?_
      have hax := after_n (b := b) (r := x.2.1) (w := x.2.2.1) (by omega)
      obtain ⟨b1, hb1⟩ : ∃ b1, b1 = after b x.2.1 x.2.2.1 := ⟨_, rfl⟩
      have es : b1 = { b with a := b.a + 1 } := hb1.trans hax
      have ev : b1.v = b.v := by rw [es]
      have en : b1.n = b.n := by rw [es]
      have em : b1.m = b.m := by rw [es]
      have ek : b1.k = b.k := by rw [es]
      have ex : b1.x = b.x := by rw [es]
      rw [← es] at hW
      have hbn : b1.n + 1 = ((b.n.toNat + 1 : Nat) : Int) := by omega
      refine l_val (r_fieldAddr 8 Try.underlying39 rfl tyC3.size rfl rfl rfl) rfl rfl ?_
      refine l_loadC hW 1 tyC3 rfl rfl rfl rfl rfl rfl ?_
      refine l_val (r_addZ rfl rfl rfl (by omega)) rfl rfl ?_
      refine l_val (r_assign (v := .int _ _) rfl rfl) rfl rfl ?_
      refine l_end ?_
      refine n_then ?_
      refine c_seq ?_
      refine c_seq ?_
      refine c_regY hW [] [.q, .q, .q, .q, .q, .q, .q, .q, .q, .q, .q, .q, .q, .q, .q, .q, .q, .q, .q, .q, .q, .q, .q, .q, .q, .q, .q, .q, .q, .q] [0, 1, 3, 7, 15, 31, 63, 127, 255, 127, 639, 2047, 4095, 8191, 16383, 32767, 65535, 32767, 32767, 425983, 950271, 32767, 2129919, 8388607, 32767, 32767, 50364415, 117473279, 268435455, 536870911] (by kernel_rfl) (by kernel_rfl) ?_
      refine y_val (r_move (v := .int _ _) rfl rfl) rfl rfl ?_
      refine y_val (r_eqlN (n := 0) rfl rfl rfl rfl) rfl rfl ?_
      refine y_split ?_ ?_
      · intro hc34
        replace hc34 := of_decide_eq_true hc34
        refine y_val (r_move (v := .bool _) rfl rfl) rfl rfl ?_
        refine y_not (by kernel_rfl) rfl ?_
        refine y_not (by kernel_rfl) rfl ?_
        refine y_not (by kernel_rfl) rfl ?_
        refine y_not (by kernel_rfl) rfl ?_
        refine y_not (by kernel_rfl) rfl ?_
        refine y_not (by kernel_rfl) rfl ?_
        refine y_not (by kernel_rfl) rfl ?_
        refine y_not (by kernel_rfl) rfl ?_
        refine y_not (by kernel_rfl) rfl ?_
        refine y_not (by kernel_rfl) rfl ?_
        refine y_val (r_pick (v := .bool _) rfl rfl rfl) rfl rfl ?_
        refine y_val (r_move (v := .bool _) rfl rfl) rfl rfl ?_
        refine y_not (by kernel_rfl) rfl ?_
        refine y_not (by kernel_rfl) rfl ?_
        refine y_not (by kernel_rfl) rfl ?_
        refine y_not (by kernel_rfl) rfl ?_
        refine y_not (by kernel_rfl) rfl ?_
        refine y_not (by kernel_rfl) rfl ?_
        refine y_not (by kernel_rfl) rfl ?_
        refine y_not (by kernel_rfl) rfl ?_
        refine y_not (by kernel_rfl) rfl ?_
        refine y_not (by kernel_rfl) rfl ?_
        refine y_not (by kernel_rfl) rfl ?_
        refine y_not (by kernel_rfl) rfl ?_
        refine y_not (by kernel_rfl) rfl ?_
        refine y_not (by kernel_rfl) rfl ?_
        refine y_val (r_pick (v := .bool _) rfl rfl rfl) rfl rfl ?_
        refine y_end ?_
        intro W hW
        refine n_then ?_
        refine c_true rfl ?_
        refine c_seq ?_
        refine c_reg ?_
        refine l_loadA hW 1 tyA39 rfl rfl rfl rfl rfl (by first | rfl | exact kc_len _ | exact kcf_len _ | exact boC_len _ _ | (simp; done)) ?_
        refine l_storeA hW 0 tyA39 rfl rfl rfl rfl rfl rfl (by first | rfl | exact kc_len _ | exact kcf_len _ | exact boC_len _ _ | (simp; done)) (by first | rfl | exact kc_len _ | exact kcf_len _ | exact boC_len _ _ | (simp; done)) (by first | exact kc_one _ | exact kcf_one _ | exact boC_one _ _ | (simp [Value.oneCell']; done)) ?_
        intro W hW
        refine l_val (r_assign (v := .bool _) rfl rfl) rfl rfl ?_
        refine l_end ?_
        refine n_then ?_
        refine c_ret ?_
        refine r_then ?_
        refine ret_cell_tmp hW 0 tyA39 rfl rfl rfl (by first | rfl | exact kc_len _ | exact kcf_len _ | exact boC_len _ _ | (simp; done)) rfl ?_
        have e1 : stp o f o.length = x.2 := by rw [show o.length = x.1 by omega]; exact hst
        have hv : askW b x.2.1 x.2.2.1 x.2.2.2 = _ := ask_no (by rw [← hb1]; omega)
        exact ⟨_, _, rfl, ⟨s2, by rw [askd, plays, e1, ← hb1, hv]; rfl, by rw [askd, after_l]; exact hN⟩, hW.drop 2⟩
      · intro hc34
        replace hc34 := of_decide_eq_false hc34
        refine y_val (r_move (v := .bool _) rfl rfl) rfl rfl ?_
        refine y_val (r_fieldAddr 9 Try.underlying39 rfl tyC3.size rfl rfl rfl) (by kernel_rfl) rfl ?_
        refine y_loadC 1 tyC3 (by kernel_rfl) rfl rfl rfl rfl rfl (by decide) ?_
        refine y_val (r_gtr rfl rfl rfl rfl) (by kernel_rfl) rfl ?_
        refine y_split ?_ ?_
        · intro hc35
          replace hc35 := of_decide_eq_true hc35
          refine y_val (r_move (v := .bool _) rfl rfl) (by kernel_rfl) rfl ?_
          refine y_val (r_fieldAddr 27 Try.underlying39 rfl tyC3.size rfl rfl rfl) (by kernel_rfl) rfl ?_
          refine y_loadC 1 tyC3 (by kernel_rfl) rfl rfl rfl rfl rfl (by decide) ?_
          refine y_val (r_fieldAddr 9 Try.underlying39 rfl tyC3.size rfl rfl rfl) (by kernel_rfl) rfl ?_
          refine y_loadC 1 tyC3 (by kernel_rfl) rfl rfl rfl rfl rfl (by decide) ?_
          refine y_val (r_gtr rfl rfl rfl rfl) (by kernel_rfl) rfl ?_
          refine y_split ?_ ?_
          · intro hc36
            replace hc36 := of_decide_eq_true hc36
            refine y_val (r_pick (v := .bool _) rfl rfl rfl) (by kernel_rfl) rfl ?_
            refine y_val (r_pick (v := .bool _) rfl rfl rfl) rfl rfl ?_
            refine y_val (r_move (v := .bool _) rfl rfl) rfl rfl ?_
            refine y_not (by kernel_rfl) rfl ?_
            refine y_not (by kernel_rfl) rfl ?_
            refine y_not (by kernel_rfl) rfl ?_
            refine y_not (by kernel_rfl) rfl ?_
            refine y_not (by kernel_rfl) rfl ?_
            refine y_not (by kernel_rfl) rfl ?_
            refine y_not (by kernel_rfl) rfl ?_
            refine y_not (by kernel_rfl) rfl ?_
            refine y_not (by kernel_rfl) rfl ?_
            refine y_not (by kernel_rfl) rfl ?_
            refine y_not (by kernel_rfl) rfl ?_
            refine y_not (by kernel_rfl) rfl ?_
            refine y_not (by kernel_rfl) rfl ?_
            refine y_not (by kernel_rfl) rfl ?_
            refine y_val (r_pick (v := .bool _) rfl rfl rfl) rfl rfl ?_
            refine y_end ?_
            intro W hW
            refine n_then ?_
            refine c_true rfl ?_
            refine c_seq ?_
            refine c_reg ?_
            refine l_loadA hW 1 tyA39 rfl rfl rfl rfl rfl (by first | rfl | exact kc_len _ | exact kcf_len _ | exact boC_len _ _ | (simp; done)) ?_
            refine l_storeA hW 0 tyA39 rfl rfl rfl rfl rfl rfl (by first | rfl | exact kc_len _ | exact kcf_len _ | exact boC_len _ _ | (simp; done)) (by first | rfl | exact kc_len _ | exact kcf_len _ | exact boC_len _ _ | (simp; done)) (by first | exact kc_one _ | exact kcf_one _ | exact boC_one _ _ | (simp [Value.oneCell']; done)) ?_
            intro W hW
            refine l_val (r_assign (v := .bool _) rfl rfl) rfl rfl ?_
            refine l_end ?_
            refine n_then ?_
            refine c_ret ?_
            refine r_then ?_
            refine ret_cell_tmp hW 0 tyA39 rfl rfl rfl (by first | rfl | exact kc_len _ | exact kcf_len _ | exact boC_len _ _ | (simp; done)) rfl ?_
            have e1 : stp o f o.length = x.2 := by rw [show o.length = x.1 by omega]; exact hst
            have hv : askW b x.2.1 x.2.2.1 x.2.2.2 = _ := ask_no (by rw [← hb1]; omega)
            exact ⟨_, _, rfl, ⟨s2, by rw [askd, plays, e1, ← hb1, hv]; rfl, by rw [askd, after_l]; exact hN⟩, hW.drop 2⟩
          · intro hc36
            replace hc36 := of_decide_eq_false hc36
            refine y_val (r_pick (v := .bool _) rfl rfl rfl) (by kernel_rfl) rfl ?_
            refine y_val (r_pick (v := .bool _) rfl rfl rfl) rfl rfl ?_
            refine y_val (r_move (v := .bool _) rfl rfl) rfl rfl ?_
            refine y_val (r_fieldAddr 10 Try.underlying39 rfl tyA37.size rfl rfl rfl) (by kernel_rfl) rfl ?_
            refine y_loadP 1 tyA37 (by kernel_rfl) rfl rfl rfl rfl (by rw [boC_len]; decide) (boC_key _ _) (by decide) ?_
            refine y_val (r_move (v := .int _ _) rfl rfl) (by kernel_rfl) rfl ?_
            refine y_val (r_move (v := .int _ _) rfl rfl) (by kernel_rfl) rfl ?_
            refine y_val (r_quoN (m := b.a.toNat) (n := b.n.toNat + 1) rfl (congrArg (Value.int .i64) ha) (congrArg (Value.int .i64) hbn) (by omega) (by omega)) (by kernel_rfl) rfl ?_
            refine y_val (r_conv_i64_u64 Try.underlying3 Try.underlying22 rfl rfl) (by kernel_rfl) rfl ?_
            refine y_val (r_move (v := .int _ _) rfl rfl) (by kernel_rfl) rfl ?_
            refine y_val (r_conv_i64_u64 (n := b.n.toNat + 1) Try.underlying3 Try.underlying22 rfl (congrArg (Value.int .i64) hbn)) (by kernel_rfl) rfl ?_
            refine y_call (g_rNumber _ _ _) en76 (by kernel_rfl) rfl rfl rfl ?_
            refine y_val (r_move (v := .int _ _) rfl rfl) (by kernel_rfl) rfl ?_
            refine y_val (r_move (v := .int _ _) rfl rfl) (by kernel_rfl) rfl ?_
            refine y_val (r_remN (m := b.a.toNat) (n := b.n.toNat + 1) rfl (congrArg (Value.int .i64) ha) (congrArg (Value.int .i64) hbn) (by omega)) (by kernel_rfl) rfl ?_
            refine y_val (r_conv_i64_u64 Try.underlying3 Try.underlying22 rfl rfl) (by kernel_rfl) rfl ?_
            refine y_val (r_neqN rfl rfl rfl rfl) (by kernel_rfl) rfl ?_
            refine y_split ?_ ?_
            · intro hc37
              replace hc37 := of_decide_eq_true hc37
              refine y_val (r_pick (v := .bool _) rfl rfl rfl) rfl rfl ?_
              refine y_end ?_
              intro W hW
              refine n_then ?_
              refine c_true rfl ?_
              refine c_seq ?_
              refine c_reg ?_
              refine l_loadA hW 1 tyA39 rfl rfl rfl rfl rfl (by first | rfl | exact kc_len _ | exact kcf_len _ | exact boC_len _ _ | (simp; done)) ?_
              refine l_storeA hW 0 tyA39 rfl rfl rfl rfl rfl rfl (by first | rfl | exact kc_len _ | exact kcf_len _ | exact boC_len _ _ | (simp; done)) (by first | rfl | exact kc_len _ | exact kcf_len _ | exact boC_len _ _ | (simp; done)) (by first | exact kc_one _ | exact kcf_one _ | exact boC_one _ _ | (simp [Value.oneCell']; done)) ?_
              intro W hW
              refine l_val (r_assign (v := .bool _) rfl rfl) rfl rfl ?_
              refine l_end ?_
              refine n_then ?_
              refine c_ret ?_
              refine r_then ?_
              refine ret_cell_tmp hW 0 tyA39 rfl rfl rfl (by first | rfl | exact kc_len _ | exact kcf_len _ | exact boC_len _ _ | (simp; done)) rfl ?_
              have e1 : stp o f o.length = x.2 := by rw [show o.length = x.1 by omega]; exact hst
              have hv : askW b x.2.1 x.2.2.1 x.2.2.2 = _ := ask_no (.inr (.inr (decide_eq_true (by rw [← ek]; exact hc37))))
              exact ⟨_, _, rfl, ⟨s2, by rw [askd, plays, e1, ← hb1, hv]; rfl, by rw [askd, after_l]; exact hN⟩, hW.drop 2⟩
            · intro hc37
              replace hc37 := of_decide_eq_false hc37
              refine y_val (r_pick (v := .bool _) rfl rfl rfl) rfl rfl ?_
              refine y_end ?_
              intro W hW
              refine n_then ?_
              refine c_false rfl ?_
              refine c_skip ?_
              refine n_then ?_
              refine c_seq ?_
              refine c_seq ?_
              refine c_reg ?_
              refine l_val (r_move (v := .int _ _) rfl rfl) rfl rfl ?_
              refine l_val (r_eqlN (n := 0) rfl rfl rfl rfl) rfl rfl ?_
              refine l_split ?_ ?_
              · intro hc38
                replace hc38 := of_decide_eq_true hc38
                refine l_end ?_
                refine n_then ?_
                refine c_true rfl ?_
                refine c_seq ?_
                refine c_reg ?_
                refine l_loadA hW 1 tyA39 rfl rfl rfl rfl rfl (by first | rfl | exact kc_len _ | exact kcf_len _ | exact boC_len _ _ | (simp; done)) ?_
                refine l_storeA hW 0 tyA39 rfl rfl rfl rfl rfl rfl (by first | rfl | exact kc_len _ | exact kcf_len _ | exact boC_len _ _ | (simp; done)) (by first | rfl | exact kc_len _ | exact kcf_len _ | exact boC_len _ _ | (simp; done)) (by first | exact kc_one _ | exact kcf_one _ | exact boC_one _ _ | (simp [Value.oneCell']; done)) ?_
                intro W hW
                refine l_val (r_assign (v := .bool _) rfl rfl) rfl rfl ?_
                refine l_end ?_
                refine n_then ?_
                refine c_ret ?_
                refine r_then ?_
                refine ret_cell_tmp hW 0 tyA39 rfl rfl rfl (by first | rfl | exact kc_len _ | exact kcf_len _ | exact boC_len _ _ | (simp; done)) rfl ?_
                have e1 : stp o f o.length = x.2 := by rw [show o.length = x.1 by omega]; exact hst
                have hneg : ¬ (x.2.1 = 0 ∨ (0 < b.v ∧ b.v < (after b x.2.1 x.2.2.1).x) ∨ noiseB b = true) := by
                  rw [← hb1, show noiseB b = false from decide_eq_false (by rw [← ek]; exact hc37)]
                  rintro (h | ⟨h1, h2⟩ | h)
                  · omega
                  · omega
                  · cases h
                have hv : askW b x.2.1 x.2.2.1 x.2.2.2 = _ := ask_y0 hneg (by omega)
                exact ⟨_, _, rfl, ⟨s2, by rw [askd, plays, e1, ← hb1, hv]; rfl, by rw [askd, after_l]; exact hN⟩, hW.drop 2⟩
              · intro hc38
                replace hc38 := of_decide_eq_false hc38
                refine l_end ?_
                refine n_then ?_
                refine c_false rfl ?_
                refine c_skip ?_
                refine n_then ?_
                refine c_seq ?_
                refine c_seq ?_
                refine c_reg ?_
                refine l_val (r_fieldAddr 7 Try.underlying39 rfl tyC5.size rfl rfl rfl) rfl rfl ?_
                refine l_loadC hW 1 tyC5 rfl rfl rfl rfl rfl rfl ?_
                refine l_end ?_
                refine n_then ?_
                refine c_block ?_
                refine c_seq ?_
                refine c_reg ?_
                refine l_val (r_eql rfl rfl rfl rfl) rfl rfl ?_
                refine l_split ?_ ?_
                · intro hc39
                  replace hc39 := of_decide_eq_true hc39
                  refine l_val (r_assign (v := .bool _) rfl rfl) rfl rfl ?_
                  refine l_end ?_
                  refine n_then ?_
                  refine c_true rfl ?_
                  refine c_seq ?_
                  refine c_reg ?_
                  refine l_loadA hW 1 tyA39 rfl rfl rfl rfl rfl (by first | rfl | exact kc_len _ | exact kcf_len _ | exact boC_len _ _ | (simp; done)) ?_
                  refine l_val (r_move (v := .bool _) rfl rfl) rfl rfl ?_
                  refine l_storeA hW 0 tyA39 rfl rfl rfl rfl rfl rfl (by first | rfl | exact kc_len _ | exact kcf_len _ | exact boC_len _ _ | (simp; done)) (by first | rfl | exact kc_len _ | exact kcf_len _ | exact boC_len _ _ | (simp; done)) (by first | exact kc_one _ | exact kcf_one _ | exact boC_one _ _ | (simp [Value.oneCell']; done)) ?_
                  intro W hW
                  refine l_val (r_assign (v := .bool _) rfl rfl) rfl rfl ?_
                  refine l_end ?_
                  refine n_then ?_
                  refine c_ret ?_
                  refine r_block ?_
                  refine r_then ?_
                  refine ret_cell_tmp hW 0 tyA39 rfl rfl rfl (by first | rfl | exact kc_len _ | exact kcf_len _ | exact boC_len _ _ | (simp; done)) rfl ?_
                  have e1 : stp o f o.length = x.2 := by rw [show o.length = x.1 by omega]; exact hst
                  have hneg : ¬ (x.2.1 = 0 ∨ (0 < b.v ∧ b.v < (after b x.2.1 x.2.2.1).x) ∨ noiseB b = true) := by
                    rw [← hb1, show noiseB b = false from decide_eq_false (by rw [← ek]; exact hc37)]
                    rintro (h | ⟨h1, h2⟩ | h)
                    · omega
                    · omega
                    · cases h
                  have hv : askW b x.2.1 x.2.2.1 x.2.2.2 = _ := (ask_w hneg (by omega)).trans (play_1 (by omega))
                  exact ⟨_, _, rfl, ⟨s2, by rw [askd, plays, e1, ← hb1, hv]; rfl, by rw [askd, after_l]; exact hN⟩, hW.drop 2⟩
                · intro hc39
                  replace hc39 := of_decide_eq_false hc39
                  refine l_val (r_assign (v := .bool _) rfl rfl) rfl rfl ?_
                  refine l_end ?_
                  refine n_then ?_
                  refine c_false rfl ?_
                  refine c_seq ?_
                  refine c_reg ?_
                  refine l_val (r_eql rfl rfl rfl rfl) rfl rfl ?_
                  refine l_split ?_ ?_
                  · intro hc40
                    replace hc40 := of_decide_eq_true hc40
                    refine l_val (r_assign (v := .bool _) rfl rfl) rfl rfl ?_
                    refine l_end ?_
                    refine n_then ?_
                    refine c_true rfl ?_
                    refine c_seq ?_
                    refine c_reg ?_
                    refine l_loadA hW 1 tyA39 rfl rfl rfl rfl rfl (by first | rfl | exact kc_len _ | exact kcf_len _ | exact boC_len _ _ | (simp; done)) ?_
                    refine l_storeA hW 0 tyA39 rfl rfl rfl rfl rfl rfl (by first | rfl | exact kc_len _ | exact kcf_len _ | exact boC_len _ _ | (simp; done)) (by first | rfl | exact kc_len _ | exact kcf_len _ | exact boC_len _ _ | (simp; done)) (by first | exact kc_one _ | exact kcf_one _ | exact boC_one _ _ | (simp [Value.oneCell']; done)) ?_
                    intro W hW
                    refine l_val (r_assign (v := .bool _) rfl rfl) rfl rfl ?_
                    refine l_end ?_
                    refine n_then ?_
                    refine c_ret ?_
                    refine r_block ?_
                    refine r_then ?_
                    refine ret_cell_tmp hW 0 tyA39 rfl rfl rfl (by first | rfl | exact kc_len _ | exact kcf_len _ | exact boC_len _ _ | (simp; done)) rfl ?_
                    have e1 : stp o f o.length = x.2 := by rw [show o.length = x.1 by omega]; exact hst
                    have hneg : ¬ (x.2.1 = 0 ∨ (0 < b.v ∧ b.v < (after b x.2.1 x.2.2.1).x) ∨ noiseB b = true) := by
                      rw [← hb1, show noiseB b = false from decide_eq_false (by rw [← ek]; exact hc37)]
                      rintro (h | ⟨h1, h2⟩ | h)
                      · omega
                      · omega
                      · cases h
                    have hv : askW b x.2.1 x.2.2.1 x.2.2.2 = _ := (ask_w hneg (by omega)).trans (play_3 (by omega))
                    exact ⟨_, _, rfl, ⟨s2, by rw [askd, plays, e1, ← hb1, hv]; rfl, by rw [askd, after_l]; exact hN⟩, hW.drop 2⟩
                  · intro hc40
                    replace hc40 := of_decide_eq_false hc40
                    refine l_val (r_assign (v := .bool _) rfl rfl) rfl rfl ?_
                    refine l_end ?_
                    refine n_then ?_
                    refine c_false rfl ?_
                    refine c_seq ?_
                    refine c_reg ?_
                    refine l_val (r_eql rfl rfl rfl rfl) rfl rfl ?_
                    refine l_split ?_ ?_
                    · intro hc41
                      replace hc41 := of_decide_eq_true hc41
                      refine l_val (r_assign (v := .bool _) rfl rfl) rfl rfl ?_
                      refine l_end ?_
                      refine n_then ?_
                      refine c_true rfl ?_
                      refine c_seq ?_
                      refine c_regY hW [0] [.q, .q, .q, .q, .q, .q, .q, .q, .q, .q, .q, .s, .q] [0, 0, 2, 0, 8, 24, 0, 120, 248, 510, 1022, 1023, 4095] (by kernel_rfl) (by kernel_rfl) ?_
                      refine y_loadA 1 tyA39 rfl rfl rfl rfl rfl (by first | rfl | exact kc_len _ | exact kcf_len _ | exact boC_len _ _ | (simp; done)) (by decide) ?_
                      refine y_val (r_fieldAddr 10 Try.underlying39 rfl tyA37.size rfl rfl rfl) rfl rfl ?_
                      refine y_loadP 1 tyA37 (by kernel_rfl) rfl rfl rfl rfl (by rw [boC_len]; decide) (boC_key _ _) (by decide) ?_
                      refine y_val (r_move (v := .int _ _) rfl rfl) rfl rfl ?_
                      refine y_val (r_mulN (m := 64) rfl rfl rfl (by omega)) rfl rfl ?_
                      refine y_val (r_addN (m := 4294967296) rfl rfl rfl (by omega)) rfl rfl ?_
                      refine y_val (r_move (v := .int _ _) rfl rfl) rfl rfl ?_
                      refine y_val (r_addN rfl rfl rfl (by omega)) rfl rfl ?_
                      refine y_val (r_conv_i64_u64 Try.underlying3 Try.underlying22 rfl rfl) rfl rfl ?_
                      refine y_call (g_rNumber b1.k (BitVec.ofNat 64 (4294967296 + 64 * x.2.2.1 + x.2.1)) 2#64) en76 rfl rfl rfl rfl ?_
                      refine y_val (r_eql_u64 (y := 1#64) rfl rfl rfl rfl) rfl rfl ?_
                      refine y_storeA 0 tyA39 rfl rfl rfl rfl rfl rfl (by first | rfl | exact kc_len _ | exact kcf_len _ | exact boC_len _ _ | (simp; done)) (by first | rfl | exact kc_len _ | exact kcf_len _ | exact boC_len _ _ | (simp; done)) (by first | exact kc_one _ | exact kcf_one _ | exact boC_one _ _ | (simp [Value.oneCell']; done)) (by decide) ?_
                      refine y_val (r_assign (v := .bool _) rfl rfl) rfl rfl ?_
                      refine y_end ?_
                      intro W hW
                      refine n_then ?_
                      refine c_ret ?_
                      refine r_block ?_
                      refine r_then ?_
                      refine ret_cell_tmp hW 0 tyA39 rfl rfl rfl (by first | rfl | exact kc_len _ | exact kcf_len _ | exact boC_len _ _ | (simp; done)) rfl ?_
                      have e1 : stp o f o.length = x.2 := by rw [show o.length = x.1 by omega]; exact hst
                      have hneg : ¬ (x.2.1 = 0 ∨ (0 < b.v ∧ b.v < (after b x.2.1 x.2.2.1).x) ∨ noiseB b = true) := by
                        rw [← hb1, show noiseB b = false from decide_eq_false (by rw [← ek]; exact hc37)]
                        rintro (h | ⟨h1, h2⟩ | h)
                        · omega
                        · omega
                        · cases h
                      have hv : askW b x.2.1 x.2.2.1 x.2.2.2 = _ := (ask_w hneg (by omega)).trans (play_4 (by omega))
                      exact ⟨_, _, rfl, ⟨s2, by rw [askd, plays, e1, ← hb1, hv]; rw [oddB, ← ek]; rfl, by rw [askd, after_l]; exact hN⟩, hW.drop 2⟩
                    · intro hc41
                      replace hc41 := of_decide_eq_false hc41
                      refine l_val (r_assign (v := .bool _) rfl rfl) rfl rfl ?_
                      refine l_end ?_
                      refine n_then ?_
                      refine c_false rfl ?_
                      refine c_skip ?_
                      refine n_block ?_
                      refine n_then ?_
                      refine c_seq ?_
                      refine c_reg ?_
                      refine l_loadA hW 1 tyA39 rfl rfl rfl rfl rfl (by first | rfl | exact kc_len _ | exact kcf_len _ | exact boC_len _ _ | (simp; done)) ?_
                      refine l_storeA hW 0 tyA39 rfl rfl rfl rfl rfl rfl (by first | rfl | exact kc_len _ | exact kcf_len _ | exact boC_len _ _ | (simp; done)) (by first | rfl | exact kc_len _ | exact kcf_len _ | exact boC_len _ _ | (simp; done)) (by first | exact kc_one _ | exact kcf_one _ | exact boC_one _ _ | (simp [Value.oneCell']; done)) ?_
                      intro W hW
                      refine l_val (r_assign (v := .bool _) rfl rfl) rfl rfl ?_
                      refine l_end ?_
                      refine n_then ?_
                      refine c_ret ?_
                      refine ret_cell_tmp hW 0 tyA39 rfl rfl rfl (by first | rfl | exact kc_len _ | exact kcf_len _ | exact boC_len _ _ | (simp; done)) rfl ?_
                      have e1 : stp o f o.length = x.2 := by rw [show o.length = x.1 by omega]; exact hst
                      have hneg : ¬ (x.2.1 = 0 ∨ (0 < b.v ∧ b.v < (after b x.2.1 x.2.2.1).x) ∨ noiseB b = true) := by
                        rw [← hb1, show noiseB b = false from decide_eq_false (by rw [← ek]; exact hc37)]
                        rintro (h | ⟨h1, h2⟩ | h)
                        · omega
                        · omega
                        · cases h
                      have hv : askW b x.2.1 x.2.2.1 x.2.2.2 = _ := (ask_w hneg (by omega)).trans (play_2 (by omega) (by omega) (by omega))
                      exact ⟨_, _, rfl, ⟨s2, by rw [askd, plays, e1, ← hb1, hv]; rfl, by rw [askd, after_l]; exact hN⟩, hW.drop 2⟩
        · intro hc35
          replace hc35 := of_decide_eq_false hc35
          refine y_val (r_move (v := .bool _) rfl rfl) (by kernel_rfl) rfl ?_
          refine y_not (by kernel_rfl) rfl ?_
          refine y_not (by kernel_rfl) rfl ?_
          refine y_not (by kernel_rfl) rfl ?_
          refine y_not (by kernel_rfl) rfl ?_
          refine y_not (by kernel_rfl) rfl ?_
          refine y_val (r_pick (v := .bool _) rfl rfl rfl) (by kernel_rfl) rfl ?_
          refine y_val (r_pick (v := .bool _) rfl rfl rfl) rfl rfl ?_
          refine y_val (r_move (v := .bool _) rfl rfl) rfl rfl ?_
          refine y_val (r_fieldAddr 10 Try.underlying39 rfl tyA37.size rfl rfl rfl) (by kernel_rfl) rfl ?_
          refine y_loadP 1 tyA37 (by kernel_rfl) rfl rfl rfl rfl (by rw [boC_len]; decide) (boC_key _ _) (by decide) ?_
          refine y_val (r_move (v := .int _ _) rfl rfl) (by kernel_rfl) rfl ?_
          refine y_val (r_move (v := .int _ _) rfl rfl) (by kernel_rfl) rfl ?_
          refine y_val (r_quoN (m := b.a.toNat) (n := b.n.toNat + 1) rfl (congrArg (Value.int .i64) ha) (congrArg (Value.int .i64) hbn) (by omega) (by omega)) (by kernel_rfl) rfl ?_
          refine y_val (r_conv_i64_u64 Try.underlying3 Try.underlying22 rfl rfl) (by kernel_rfl) rfl ?_
          refine y_val (r_move (v := .int _ _) rfl rfl) (by kernel_rfl) rfl ?_
          refine y_val (r_conv_i64_u64 (n := b.n.toNat + 1) Try.underlying3 Try.underlying22 rfl (congrArg (Value.int .i64) hbn)) (by kernel_rfl) rfl ?_
          refine y_call (g_rNumber _ _ _) en76 (by kernel_rfl) rfl rfl rfl ?_
          refine y_val (r_move (v := .int _ _) rfl rfl) (by kernel_rfl) rfl ?_
          refine y_val (r_move (v := .int _ _) rfl rfl) (by kernel_rfl) rfl ?_
          refine y_val (r_remN (m := b.a.toNat) (n := b.n.toNat + 1) rfl (congrArg (Value.int .i64) ha) (congrArg (Value.int .i64) hbn) (by omega)) (by kernel_rfl) rfl ?_
          refine y_val (r_conv_i64_u64 Try.underlying3 Try.underlying22 rfl rfl) (by kernel_rfl) rfl ?_
          refine y_val (r_neqN rfl rfl rfl rfl) (by kernel_rfl) rfl ?_
          refine y_split ?_ ?_
          · intro hc42
            replace hc42 := of_decide_eq_true hc42
            refine y_val (r_pick (v := .bool _) rfl rfl rfl) rfl rfl ?_
            refine y_end ?_
            intro W hW
            refine n_then ?_
            refine c_true rfl ?_
            refine c_seq ?_
            refine c_reg ?_
            refine l_loadA hW 1 tyA39 rfl rfl rfl rfl rfl (by first | rfl | exact kc_len _ | exact kcf_len _ | exact boC_len _ _ | (simp; done)) ?_
            refine l_storeA hW 0 tyA39 rfl rfl rfl rfl rfl rfl (by first | rfl | exact kc_len _ | exact kcf_len _ | exact boC_len _ _ | (simp; done)) (by first | rfl | exact kc_len _ | exact kcf_len _ | exact boC_len _ _ | (simp; done)) (by first | exact kc_one _ | exact kcf_one _ | exact boC_one _ _ | (simp [Value.oneCell']; done)) ?_
            intro W hW
            refine l_val (r_assign (v := .bool _) rfl rfl) rfl rfl ?_
            refine l_end ?_
            refine n_then ?_
            refine c_ret ?_
            refine r_then ?_
            refine ret_cell_tmp hW 0 tyA39 rfl rfl rfl (by first | rfl | exact kc_len _ | exact kcf_len _ | exact boC_len _ _ | (simp; done)) rfl ?_
            have e1 : stp o f o.length = x.2 := by rw [show o.length = x.1 by omega]; exact hst
            have hv : askW b x.2.1 x.2.2.1 x.2.2.2 = _ := ask_no (.inr (.inr (decide_eq_true (by rw [← ek]; exact hc42))))
            exact ⟨_, _, rfl, ⟨s2, by rw [askd, plays, e1, ← hb1, hv]; rfl, by rw [askd, after_l]; exact hN⟩, hW.drop 2⟩
          · intro hc42
            replace hc42 := of_decide_eq_false hc42
            refine y_val (r_pick (v := .bool _) rfl rfl rfl) rfl rfl ?_
            refine y_end ?_
            intro W hW
            refine n_then ?_
            refine c_false rfl ?_
            refine c_skip ?_
            refine n_then ?_
            refine c_seq ?_
            refine c_seq ?_
            refine c_reg ?_
            refine l_val (r_move (v := .int _ _) rfl rfl) rfl rfl ?_
            refine l_val (r_eqlN (n := 0) rfl rfl rfl rfl) rfl rfl ?_
            refine l_split ?_ ?_
            · intro hc43
              replace hc43 := of_decide_eq_true hc43
              refine l_end ?_
              refine n_then ?_
              refine c_true rfl ?_
              refine c_seq ?_
              refine c_reg ?_
              refine l_loadA hW 1 tyA39 rfl rfl rfl rfl rfl (by first | rfl | exact kc_len _ | exact kcf_len _ | exact boC_len _ _ | (simp; done)) ?_
              refine l_storeA hW 0 tyA39 rfl rfl rfl rfl rfl rfl (by first | rfl | exact kc_len _ | exact kcf_len _ | exact boC_len _ _ | (simp; done)) (by first | rfl | exact kc_len _ | exact kcf_len _ | exact boC_len _ _ | (simp; done)) (by first | exact kc_one _ | exact kcf_one _ | exact boC_one _ _ | (simp [Value.oneCell']; done)) ?_
              intro W hW
              refine l_val (r_assign (v := .bool _) rfl rfl) rfl rfl ?_
              refine l_end ?_
              refine n_then ?_
              refine c_ret ?_
              refine r_then ?_
              refine ret_cell_tmp hW 0 tyA39 rfl rfl rfl (by first | rfl | exact kc_len _ | exact kcf_len _ | exact boC_len _ _ | (simp; done)) rfl ?_
              have e1 : stp o f o.length = x.2 := by rw [show o.length = x.1 by omega]; exact hst
              have hneg : ¬ (x.2.1 = 0 ∨ (0 < b.v ∧ b.v < (after b x.2.1 x.2.2.1).x) ∨ noiseB b = true) := by
                rw [← hb1, show noiseB b = false from decide_eq_false (by rw [← ek]; exact hc42)]
                rintro (h | ⟨h1, h2⟩ | h)
                · omega
                · omega
                · cases h
              have hv : askW b x.2.1 x.2.2.1 x.2.2.2 = _ := ask_y0 hneg (by omega)
              exact ⟨_, _, rfl, ⟨s2, by rw [askd, plays, e1, ← hb1, hv]; rfl, by rw [askd, after_l]; exact hN⟩, hW.drop 2⟩
            · intro hc43
              replace hc43 := of_decide_eq_false hc43
              refine l_end ?_
              refine n_then ?_
              refine c_false rfl ?_
              refine c_skip ?_
              refine n_then ?_
              refine c_seq ?_
              refine c_seq ?_
              refine c_reg ?_
              refine l_val (r_fieldAddr 7 Try.underlying39 rfl tyC5.size rfl rfl rfl) rfl rfl ?_
              refine l_loadC hW 1 tyC5 rfl rfl rfl rfl rfl rfl ?_
              refine l_end ?_
              refine n_then ?_
              refine c_block ?_
              refine c_seq ?_
              refine c_reg ?_
              refine l_val (r_eql rfl rfl rfl rfl) rfl rfl ?_
              refine l_split ?_ ?_
              · intro hc44
                replace hc44 := of_decide_eq_true hc44
                refine l_val (r_assign (v := .bool _) rfl rfl) rfl rfl ?_
                refine l_end ?_
                refine n_then ?_
                refine c_true rfl ?_
                refine c_seq ?_
                refine c_reg ?_
                refine l_loadA hW 1 tyA39 rfl rfl rfl rfl rfl (by first | rfl | exact kc_len _ | exact kcf_len _ | exact boC_len _ _ | (simp; done)) ?_
                refine l_val (r_move (v := .bool _) rfl rfl) rfl rfl ?_
                refine l_storeA hW 0 tyA39 rfl rfl rfl rfl rfl rfl (by first | rfl | exact kc_len _ | exact kcf_len _ | exact boC_len _ _ | (simp; done)) (by first | rfl | exact kc_len _ | exact kcf_len _ | exact boC_len _ _ | (simp; done)) (by first | exact kc_one _ | exact kcf_one _ | exact boC_one _ _ | (simp [Value.oneCell']; done)) ?_
                intro W hW
                refine l_val (r_assign (v := .bool _) rfl rfl) rfl rfl ?_
                refine l_end ?_
                refine n_then ?_
                refine c_ret ?_
                refine r_block ?_
                refine r_then ?_
                refine ret_cell_tmp hW 0 tyA39 rfl rfl rfl (by first | rfl | exact kc_len _ | exact kcf_len _ | exact boC_len _ _ | (simp; done)) rfl ?_
                have e1 : stp o f o.length = x.2 := by rw [show o.length = x.1 by omega]; exact hst
                have hneg : ¬ (x.2.1 = 0 ∨ (0 < b.v ∧ b.v < (after b x.2.1 x.2.2.1).x) ∨ noiseB b = true) := by
                  rw [← hb1, show noiseB b = false from decide_eq_false (by rw [← ek]; exact hc42)]
                  rintro (h | ⟨h1, h2⟩ | h)
                  · omega
                  · omega
                  · cases h
                have hv : askW b x.2.1 x.2.2.1 x.2.2.2 = _ := (ask_w hneg (by omega)).trans (play_1 (by omega))
                exact ⟨_, _, rfl, ⟨s2, by rw [askd, plays, e1, ← hb1, hv]; rfl, by rw [askd, after_l]; exact hN⟩, hW.drop 2⟩
              · intro hc44
                replace hc44 := of_decide_eq_false hc44
                refine l_val (r_assign (v := .bool _) rfl rfl) rfl rfl ?_
                refine l_end ?_
                refine n_then ?_
                refine c_false rfl ?_
                refine c_seq ?_
                refine c_reg ?_
                refine l_val (r_eql rfl rfl rfl rfl) rfl rfl ?_
                refine l_split ?_ ?_
                · intro hc45
                  replace hc45 := of_decide_eq_true hc45
                  refine l_val (r_assign (v := .bool _) rfl rfl) rfl rfl ?_
                  refine l_end ?_
                  refine n_then ?_
                  refine c_true rfl ?_
                  refine c_seq ?_
                  refine c_reg ?_
                  refine l_loadA hW 1 tyA39 rfl rfl rfl rfl rfl (by first | rfl | exact kc_len _ | exact kcf_len _ | exact boC_len _ _ | (simp; done)) ?_
                  refine l_storeA hW 0 tyA39 rfl rfl rfl rfl rfl rfl (by first | rfl | exact kc_len _ | exact kcf_len _ | exact boC_len _ _ | (simp; done)) (by first | rfl | exact kc_len _ | exact kcf_len _ | exact boC_len _ _ | (simp; done)) (by first | exact kc_one _ | exact kcf_one _ | exact boC_one _ _ | (simp [Value.oneCell']; done)) ?_
                  intro W hW
                  refine l_val (r_assign (v := .bool _) rfl rfl) rfl rfl ?_
                  refine l_end ?_
                  refine n_then ?_
                  refine c_ret ?_
                  refine r_block ?_
                  refine r_then ?_
                  refine ret_cell_tmp hW 0 tyA39 rfl rfl rfl (by first | rfl | exact kc_len _ | exact kcf_len _ | exact boC_len _ _ | (simp; done)) rfl ?_
                  have e1 : stp o f o.length = x.2 := by rw [show o.length = x.1 by omega]; exact hst
                  have hneg : ¬ (x.2.1 = 0 ∨ (0 < b.v ∧ b.v < (after b x.2.1 x.2.2.1).x) ∨ noiseB b = true) := by
                    rw [← hb1, show noiseB b = false from decide_eq_false (by rw [← ek]; exact hc42)]
                    rintro (h | ⟨h1, h2⟩ | h)
                    · omega
                    · omega
                    · cases h
                  have hv : askW b x.2.1 x.2.2.1 x.2.2.2 = _ := (ask_w hneg (by omega)).trans (play_3 (by omega))
                  exact ⟨_, _, rfl, ⟨s2, by rw [askd, plays, e1, ← hb1, hv]; rfl, by rw [askd, after_l]; exact hN⟩, hW.drop 2⟩
                · intro hc45
                  replace hc45 := of_decide_eq_false hc45
                  refine l_val (r_assign (v := .bool _) rfl rfl) rfl rfl ?_
                  refine l_end ?_
                  refine n_then ?_
                  refine c_false rfl ?_
                  refine c_seq ?_
                  refine c_reg ?_
                  refine l_val (r_eql rfl rfl rfl rfl) rfl rfl ?_
                  refine l_split ?_ ?_
                  · intro hc46
                    replace hc46 := of_decide_eq_true hc46
                    refine l_val (r_assign (v := .bool _) rfl rfl) rfl rfl ?_
                    refine l_end ?_
                    refine n_then ?_
                    refine c_true rfl ?_
                    refine c_seq ?_
                    refine c_regY hW [0] [.q, .q, .q, .q, .q, .q, .q, .q, .q, .q, .q, .s, .q] [0, 0, 2, 0, 8, 24, 0, 120, 248, 510, 1022, 1023, 4095] (by kernel_rfl) (by kernel_rfl) ?_
                    refine y_loadA 1 tyA39 rfl rfl rfl rfl rfl (by first | rfl | exact kc_len _ | exact kcf_len _ | exact boC_len _ _ | (simp; done)) (by decide) ?_
                    refine y_val (r_fieldAddr 10 Try.underlying39 rfl tyA37.size rfl rfl rfl) rfl rfl ?_
                    refine y_loadP 1 tyA37 (by kernel_rfl) rfl rfl rfl rfl (by rw [boC_len]; decide) (boC_key _ _) (by decide) ?_
                    refine y_val (r_move (v := .int _ _) rfl rfl) rfl rfl ?_
                    refine y_val (r_mulN (m := 64) rfl rfl rfl (by omega)) rfl rfl ?_
                    refine y_val (r_addN (m := 4294967296) rfl rfl rfl (by omega)) rfl rfl ?_
                    refine y_val (r_move (v := .int _ _) rfl rfl) rfl rfl ?_
                    refine y_val (r_addN rfl rfl rfl (by omega)) rfl rfl ?_
                    refine y_val (r_conv_i64_u64 Try.underlying3 Try.underlying22 rfl rfl) rfl rfl ?_
                    refine y_call (g_rNumber b1.k (BitVec.ofNat 64 (4294967296 + 64 * x.2.2.1 + x.2.1)) 2#64) en76 rfl rfl rfl rfl ?_
                    refine y_val (r_eql_u64 (y := 1#64) rfl rfl rfl rfl) rfl rfl ?_
                    refine y_storeA 0 tyA39 rfl rfl rfl rfl rfl rfl (by first | rfl | exact kc_len _ | exact kcf_len _ | exact boC_len _ _ | (simp; done)) (by first | rfl | exact kc_len _ | exact kcf_len _ | exact boC_len _ _ | (simp; done)) (by first | exact kc_one _ | exact kcf_one _ | exact boC_one _ _ | (simp [Value.oneCell']; done)) (by decide) ?_
                    refine y_val (r_assign (v := .bool _) rfl rfl) rfl rfl ?_
                    refine y_end ?_
                    intro W hW
                    refine n_then ?_
                    refine c_ret ?_
                    refine r_block ?_
                    refine r_then ?_
                    refine ret_cell_tmp hW 0 tyA39 rfl rfl rfl (by first | rfl | exact kc_len _ | exact kcf_len _ | exact boC_len _ _ | (simp; done)) rfl ?_
                    have e1 : stp o f o.length = x.2 := by rw [show o.length = x.1 by omega]; exact hst
                    have hneg : ¬ (x.2.1 = 0 ∨ (0 < b.v ∧ b.v < (after b x.2.1 x.2.2.1).x) ∨ noiseB b = true) := by
                      rw [← hb1, show noiseB b = false from decide_eq_false (by rw [← ek]; exact hc42)]
                      rintro (h | ⟨h1, h2⟩ | h)
                      · omega
                      · omega
                      · cases h
                    have hv : askW b x.2.1 x.2.2.1 x.2.2.2 = _ := (ask_w hneg (by omega)).trans (play_4 (by omega))
                    exact ⟨_, _, rfl, ⟨s2, by rw [askd, plays, e1, ← hb1, hv]; rw [oddB, ← ek]; rfl, by rw [askd, after_l]; exact hN⟩, hW.drop 2⟩
                  · intro hc46
                    replace hc46 := of_decide_eq_false hc46
                    refine l_val (r_assign (v := .bool _) rfl rfl) rfl rfl ?_
                    refine l_end ?_
                    refine n_then ?_
                    refine c_false rfl ?_
                    refine c_skip ?_
                    refine n_block ?_
                    refine n_then ?_
                    refine c_seq ?_
                    refine c_reg ?_
                    refine l_loadA hW 1 tyA39 rfl rfl rfl rfl rfl (by first | rfl | exact kc_len _ | exact kcf_len _ | exact boC_len _ _ | (simp; done)) ?_
                    refine l_storeA hW 0 tyA39 rfl rfl rfl rfl rfl rfl (by first | rfl | exact kc_len _ | exact kcf_len _ | exact boC_len _ _ | (simp; done)) (by first | rfl | exact kc_len _ | exact kcf_len _ | exact boC_len _ _ | (simp; done)) (by first | exact kc_one _ | exact kcf_one _ | exact boC_one _ _ | (simp [Value.oneCell']; done)) ?_
                    intro W hW
                    refine l_val (r_assign (v := .bool _) rfl rfl) rfl rfl ?_
                    refine l_end ?_
                    refine n_then ?_
                    refine c_ret ?_
                    refine ret_cell_tmp hW 0 tyA39 rfl rfl rfl (by first | rfl | exact kc_len _ | exact kcf_len _ | exact boC_len _ _ | (simp; done)) rfl ?_
                    have e1 : stp o f o.length = x.2 := by rw [show o.length = x.1 by omega]; exact hst
                    have hneg : ¬ (x.2.1 = 0 ∨ (0 < b.v ∧ b.v < (after b x.2.1 x.2.2.1).x) ∨ noiseB b = true) := by
                      rw [← hb1, show noiseB b = false from decide_eq_false (by rw [← ek]; exact hc42)]
                      rintro (h | ⟨h1, h2⟩ | h)
                      · omega
                      · omega
                      · cases h
                    have hv : askW b x.2.1 x.2.2.1 x.2.2.2 = _ := (ask_w hneg (by omega)).trans (play_2 (by omega) (by omega) (by omega))
                    exact ⟨_, _, rfl, ⟨s2, by rw [askd, plays, e1, ← hb1, hv]; rfl, by rw [askd, after_l]; exact hN⟩, hW.drop 2⟩

end Go.Proofs.Ytoegpalacppllaa

/- A region that draws its order, with a chain of quiet operations that may come at any time beside the rest. No function of the program is in sight here. -/
namespace Go.Proofs.Ytoegpalacppllaa
open Go.RowKit

/-- a quiet operation: its place, itself, its value -/
abbrev Zl := List (Nat × Oper × Value)
def zset (done : Array Bool) : Zl → Array Bool
  | [] => done
  | x :: l => zset (done.setIfInBounds x.1 true) l
def ZokL (P : Program) (w0 : Base) (S : List Nat) (L0 : List Blk) : Act → Zl → Prop
  | _, [] => True
  | a, x :: l => Zok P w0 S L0 a x.2.1 x.2.2 ∧ ZokL P w0 S L0 (a.put x.2.1.dst x.2.2) l
section
variable {P : Program} {ops : Array Oper} {Q : Exit → Act → World → Prop} {a : Act} {w0 : Base} {W : World} {L : List Blk} {md : Region.Mode} {S : List Nat} {r : Option (Option Nat)} {m : Nat} {ms : List Mk} {bs : List Value} {us : List (Nat × Value)} {ds : List Deferred}

theorem zset_ne : ∀ (l : Zl) {done : Array Bool} {i : Nat} (b : Bool), (∀ x ∈ l, x.1 ≠ i) → (zset done l).getD i b = done.getD i b
  | [], _, _, _, _ => rfl
  | x :: l, done, i, b, h => by
    rw [zset, zset_ne l b fun y hy => h y (by simp [hy]), getD_set_ne b (h x (by simp))]
theorem zset_mono : ∀ (l : Zl) {done : Array Bool} {i : Nat}, done.getD i false = true → (zset done l).getD i false = true
  | [], _, _, h => h
  | x :: l, done, i, h => by
    refine zset_mono l ?_
    by_cases hx : x.1 = i
    · subst hx
      have := getD_true_lt h
      simp [this]
    · rw [getD_set_ne false hx]; exact h
theorem zready : ∀ (l : Zl) {done : Array Bool} {i : Nat}, i ∈ Region.ready md ops done → (∀ x ∈ l, x.1 ≠ i) → i ∈ Region.ready md ops (zset done l) := fun l done i hi hne => by
  obtain ⟨hd, oi, ho, hall⟩ := mem_ready.1 hi
  exact mem_ready.2 ⟨by rw [zset_ne l true hne]; exact hd, oi, ho, fun e he hb => zset_mono l (hall e he hb)⟩
theorem ZokL.putK {L0 : List Blk} {k : Kd} {dst : Option Tmp} {v : Value} : ∀ (l : Zl) (a : Act), (∀ x ∈ l, (∀ cs b, x.2.1.op ≠ .select cs b) ∧ (∀ d, dst = some d → d ∉ x.2.1.looksAt ops) ∧ (∀ d, x.2.1.dst = some d → dst ≠ some d)) → ZokL P w0 S L0 a l → ZokL P w0 S L0 (putK k a dst v) l
  | [], _, _, _ => trivial
  | x :: l, a, hx, h => by
    obtain ⟨h1, h2, h3⟩ := hx x (by simp)
    refine ⟨?_, ?_⟩
    · intro L2 w hs hc
      have e : execOp (Go.Proofs.Ytoegpalacppllaa.putK k a dst v).eval x.2.1 = execOp a.eval x.2.1 := by
        cases k <;> first | rfl | exact execOp_put x.2.1 h1 a dst v h2
      rw [e]; exact h.1 L2 w hs hc
    · have hc : (Go.Proofs.Ytoegpalacppllaa.putK k a dst v).put x.2.1.dst x.2.2 = Go.Proofs.Ytoegpalacppllaa.putK k (a.put x.2.1.dst x.2.2) dst v := (putK_comm (a := a) (j := Kd.q) (k := k) (x := x.2.1.dst) (y := dst) x.2.2 v h3).symm
      rw [hc]
      exact ZokL.putK l _ (fun y hy => hx y (by simp [hy])) h.2

/-! ### a region -/
def Zat (ops : Array Oper) : Zl → Prop
  | [] => True
  | x :: l => ops[x.1]? = some x.2.1 ∧ Zat ops l
def ZevL (P : Program) (w0 : Base) (S : List Nat) (L : List Blk) (bs : List Value) : List (Nat × Value) → Zl → Prop
  | _, [] => True
  | us, x :: l => (∀ L2 w, Sim S L L2 → Cl w0 L2 w → (execOp (ev bs us) x.2.1).run P w = .ok (.value x.2.2) w) ∧ ∃ d, x.2.1.dst = some d ∧ ZevL P w0 S L bs ((d, x.2.2) :: us) l
theorem ZevL.ok : ∀ (l : Zl) (us : List (Nat × Value)), ZevL P w0 S L bs us l → ZokL P w0 S L (fr bs us ds) l
  | [], _, _ => trivial
  | x :: l, us, ⟨h, d, hd, hl⟩ => ⟨fun L2 w hs hc => by rw [eval_ev]; exact h L2 w hs hc, by rw [hd, put_st]; exact ZevL.ok l _ hl⟩
theorem Zat.mem {l : Zl} (h : Zat ops l) : ∀ x ∈ l, ops[x.1]? = some x.2.1 := by
  induction l with
  | nil => intro x hx; cases hx
  | cons y l ih =>
    intro x hx
    rcases List.mem_cons.1 hx with rfl | hx
    · exact h.1
    · exact ih h.2 x hx
end
end Go.Proofs.Ytoegpalacppllaa

/- A region that draws its order, with a new variable that may be made at any time beside the rest. No function of the program is in sight here. -/
namespace Go.Proofs.Ytoegpalacppllaa
open Go.RowKit

section
variable {P : Program} {ops : Array Oper} {Q : Exit → Act → World → Prop} {a : Act} {w0 : Base} {W : World} {L : List Blk} {md : Region.Mode} {S : List Nat} {r : Option (Option Nat)} {m : Nat} {ms : List Mk} {bs : List Value} {us : List (Nat × Value)} {ds : List Deferred}

def noS : Kd → Bool
  | .s => false
  | _ => true
/-- more blocks behind those that are known -/
theorem StepK.more {k : Kd} {o : Oper} {s s' : St} {v : Value} (E : List Blk) (hk : noS k = true) (h : StepK P ops w0 S ms k o a s v s') : StepK P ops w0 S ms k o a (s.1 ++ E, s.2) v (s'.1 ++ E, s'.2) := by
  have hs : ∀ {L2}, Sim S (s.1 ++ E) L2 → Sim S s.1 L2 := fun h => (Sim.more S s.1 E).trans h
  cases k with
  | q => exact ⟨fun L2 hL => h.1 L2 (hs hL), by rw [h.2]⟩
  | r => exact ⟨fun N => by rw [List.append_assoc]; exact h.1 (E ++ N), by rw [h.2]⟩
  | s => cases hk
  | mk i =>
    obtain ⟨h1, h2, k, z, h3, h4, h5⟩ := h
    exact ⟨h1, by rw [h2], k, z, h3, h4, fun L2 hL => h5 L2 (hs hL)⟩
  | mkd i j =>
    obtain ⟨h1, h2, k, z, kj, zj, h3, h4, h5, h6, h7⟩ := h
    exact ⟨h1, by rw [h2], k, z, kj, zj, h3, h4, h5, h6, fun u Bs L2 hL hX => h7 u Bs L2 (hs hL) hX⟩
  | st i =>
    obtain ⟨h1, k, vs, h3, h4, h5⟩ := h
    exact ⟨h1, k, vs, h3, h4, by rw [h5]⟩
  | rd i =>
    obtain ⟨h1, k, z, h3, h4, h5⟩ := h
    exact ⟨by rw [h1], k, z, h3, h4, fun u Bs L2 hL hX => h5 u Bs L2 (hs hL) hX⟩
  | tail => exact h.elim
/-- what is asked of the operation that makes it -/
structure Alc (md : Region.Mode) (ops : Array Oper) (ms : List Mk) (ix : List Nat) (kd : Nat → Kd) (z : Nat) (oz : Oper) (d : Tmp) : Prop where
  at_ : ops[z]? = some oz
  guard : oz.guard = none
  after : ∀ e ∈ oz.after, Region.binds md e = false
  dst : oz.dst = some d
  apart : ∀ (j : Nat) oj, ops[j]? = some oj → j ≠ z → (kd j).isTail = false → oz.apart ops oj = true
  ds : ∀ k ∈ ms, oz.dst ≠ some k.d
  ix : ∀ i ∈ ix, i ≠ z
def alB (md : Region.Mode) (ops : Array Oper) (D ix : List Nat) (kd : Nat → Kd) (z d : Nat) : Bool := match ops[z]? with
  | some oz => oz.guard.isNone && oz.after.all (fun e => !Region.binds md e) && D.all (fun d => oz.dst != some d) && (oz.dst == some d) &&
      ((List.range ops.size).all fun j => j == z || (kd j).isTail || match ops[j]? with | some oj => oz.apart ops oj | none => true) && ix.all (fun i => !(i == z))
  | none => false
theorem alB_spec {ix : List Nat} {kd : Nat → Kd} {z d : Nat} (h : alB md ops (ms.map Mk.d) ix kd z d = true) : ∃ oz, Alc md ops ms ix kd z oz d := by
  unfold alB at h
  cases hz : ops[z]? with
  | none => rw [hz] at h; cases h
  | some oz =>
    rw [hz] at h
    simp only [Bool.and_eq_true, Option.isNone_iff_eq_none, beq_iff_eq] at h
    obtain ⟨⟨⟨⟨⟨h1, h2⟩, h3⟩, h6⟩, h4⟩, h5⟩ := h
    refine ⟨oz, hz, h1, fun e he => ?_, h6, fun j oj hj hne ht => ?_, fun k hk => ?_, fun i hi e => ?_⟩
    · have := Array.all_eq_true_iff_forall_mem.1 h2 e he
      simpa using this
    · have := List.all_eq_true.1 h4 j (List.mem_range.2 (Array.getElem?_eq_some_iff.1 hj).1)
      rw [hj] at this
      simpa [hne, ht] using this
    · have := List.all_eq_true.1 h3 k.d (List.mem_map.2 ⟨k, hk, rfl⟩)
      simpa using this
    · have := List.all_eq_true.1 h5 i hi
      simp [e] at this
/-- the variable is there, though no operation of this layer looks at it -/
theorem anyC_al {N : Nat} {kd : Nat → Kd} {ix : List Nat} {U : Nat → Array Bool → Act → St → Prop} {z : Nat} {oz : Oper} {d : Tmp} (hsel : ∀ (j : Nat) (o : Oper) cs b, ops[j]? = some o → o.op ≠ .select cs b) (hz : Alc md ops ms ix kd z oz d) (hns : ∀ i, noS (kd i) = true) (E : List Blk) (u : Value) : ∀ (f : Nat) (done : Array Bool) (a : Act) (s : St), done.getD z false = true → a.tmps.size = N →
    anyC P md ops w0 S ms kd ix (fun _ _ => False) U f done a s → anyC P md ops w0 S ms kd ix (fun _ _ => False) (fun f done a1 s1 => ∃ a0 s0, a1 = a0.put oz.dst u ∧ s1 = (s0.1 ++ E, s0.2) ∧ a0.tmps.size = N ∧ U f done a0 s0) f done (a.put oz.dst u) (s.1 ++ E, s.2) := by
  intro f
  induction f with
  | zero => intro done a s _ _ h; exact h.2.2.elim
  | succ f ih =>
    intro done a s hd hN h
    refine ⟨h.1, h.2.imp (fun ⟨x, y, hu⟩ => ⟨x, y, a, s, rfl, rfl, hN, hu⟩) fun h2 i hi => ?_⟩
    obtain ⟨oi, ho, v, s', hk, hn⟩ := h2 i hi
    have hiz : i ≠ z := fun e => by
      subst e
      have h1 := (mem_ready.1 hi).1
      have hlt := getD_true_lt hd
      simp only [Array.getD_eq_getD_getElem?, Array.getElem?_eq_getElem hlt, Option.getD_some] at h1 hd
      rw [hd] at h1; cases h1
    cases ht : (kd i).isTail with
    | true =>
      have e : kd i = .tail := by cases hkd : kd i <;> rw [hkd] at ht <;> simp [Kd.isTail] at ht <;> rfl
      rw [e] at hk; exact hk.elim
    | false =>
      obtain ⟨h1, h2', _⟩ := Oper.apart_spec (hz.apart i oi ho hiz ht)
      refine ⟨oi, ho, v, (s'.1 ++ E, s'.2), (StepK.eq (hsel i oi · · ho) h1).2 (hk.more E (hns i)), ?_⟩
      have hc : putK (kd i) (a.put oz.dst u) oi.dst v = (putK (kd i) a oi.dst v).put oz.dst u := putK_comm (a := a) (j := Kd.q) (k := kd i) (x := oz.dst) (y := oi.dst) u v h2'
      rw [hc]
      have hsz2 : (putK (kd i) a oi.dst v).tmps.size = a.tmps.size := by cases kd i <;> simp [putK, put_size]
      exact ih (done.setIfInBounds i true) (putK (kd i) a oi.dst v) s' (by rw [getD_set_ne false hiz]; exact hd) (by rw [hsz2]; exact hN) hn

theorem anyC_v {N : Nat} {kd : Nat → Kd} {ix : List Nat} {U : Nat → Array Bool → Act → St → Prop} {z : Nat} {oz : Oper} {d : Tmp} {t : TypeId} {zc : List Value} (hA : AllB md ops ms ix kd) (hsel : ∀ (j : Nat) (o : Oper) cs b, ops[j]? = some o → o.op ≠ .select cs b) (hz : Alc md ops ms ix kd z oz d) (hns : ∀ i, noS (kd i) = true)
    (hal : ∀ ρ w, (execOp ρ oz).run P w = .ok (.value (.pointer (some ⟨w.heap.size, 0, none⟩))) (w.alloc (.cells zc.toArray t)))
    (hT1 : ∀ f done a s vs Ns w g, Made ms s.2 vs Ns → (∀ v ∈ vs, v.isSome = true) → Cl w0 ((s.1 ++ [⟨g, zc, t⟩]) ++ Ns.flatten) w → a.tmps.size = N → U f done a s → AW r m P md ops Q f done (puts (a.put oz.dst (.pointer (some ⟨g, 0, none⟩))) ms vs) w)
    (hT2 : ∀ f done a s vs Ns w, Made ms s.2 vs Ns → (∀ v ∈ vs, v.isSome = true) → Cl w0 (s.1 ++ Ns.flatten) w → a.tmps.size = N → Closed md ops done → done.getD z true = false → U f (done.setIfInBounds z true) a s → AW r m P md ops Q (f + 1) done (puts a ms vs) w) (f : Nat) :
    ∀ (done : Array Bool) (a : Act) (s : St) (vs : List (Option Value)) (Ns : List (List Blk)) (w : World), Closed md ops done → done.getD z true = false → Made ms s.2 vs Ns → (∀ (q i : Nat), ix[q]? = some i → ((∃ v, vs[q]? = some (some v)) ↔ done.getD i false = true)) → (∀ m ∈ ms, m.d < a.tmps.size) → a.tmps.size = N →
      Cl w0 (s.1 ++ Ns.flatten) w → anyC P md ops w0 S ms kd ix (fun _ _ => False) U f (done.setIfInBounds z true) a s → AW r m P md ops Q (f + 1) done (puts a ms vs) w := by
  have relz : ∀ {done : Array Bool} {vs : List (Option Value)}, (∀ (q i : Nat), ix[q]? = some i → ((∃ v, vs[q]? = some (some v)) ↔ done.getD i false = true)) → ∀ (q i : Nat), ix[q]? = some i → ((∃ v, vs[q]? = some (some v)) ↔ (done.setIfInBounds z true).getD i false = true) := fun hrel q i hq => by
    rw [getD_set_ne false (Ne.symm (hz.ix i (List.mem_of_getElem? hq)))]; exact hrel q i hq
  have zstep : ∀ (f : Nat) (done : Array Bool) (a : Act) (s : St) (vs : List (Option Value)) (Ns : List (List Blk)) (w : World), Made ms s.2 vs Ns → (∀ (q i : Nat), ix[q]? = some i → ((∃ v, vs[q]? = some (some v)) ↔ done.getD i false = true)) → (∀ m ∈ ms, m.d < a.tmps.size) → a.tmps.size = N →
      Cl w0 (s.1 ++ Ns.flatten) w → done.getD z true = false → anyC P md ops w0 S ms kd ix (fun _ _ => False) U f (done.setIfInBounds z true) a s → OW r m P ops Q z (AW r m P md ops Q f (done.setIfInBounds z true)) (puts a ms vs) w := by
    intro f done a s vs Ns w hM hrel hsz hN hC hd h
    refine OW.val hz.at_ (by simp [Region.wanted, hz.guard]) (hal _ w) ?_
    rw [puts_put ms vs a hz.ds]
    have h2 := anyC_al (N := N) hsel hz hns [⟨w.heap.size, zc, t⟩] (.pointer (some ⟨w.heap.size, 0, none⟩)) f (done.setIfInBounds z true) a s (by simp [getD_false_lt hd]) hN h
    refine anyC_any (N := N) hA hsel (fun _ _ _ _ _ _ _ _ h => h.elim) ?_ f _ _ (s.1 ++ [⟨w.heap.size, zc, t⟩], s.2) vs Ns (w.alloc (.cells zc.toArray t)) hM (relz hrel) (fun m hm => by rw [put_size]; exact hsz m hm) (by rw [put_size]; exact hN) ((hC.alloc zc t).perm ?_) h2
    · rintro f done _ _ vs Ns w' hM hs hC _ ⟨a0, s0, rfl, rfl, hN0, hU⟩
      exact hT1 f done a0 s0 vs Ns w' _ hM hs hC hN0 hU
    · exact (List.perm_append_singleton _ _).symm.trans (by
        rw [List.append_assoc, List.append_assoc]
        exact List.Perm.append_left _ List.perm_append_comm)
  have zready : ∀ {done : Array Bool}, done.getD z true = false → z ∈ Region.ready md ops done := fun hd => mem_ready.2 ⟨hd, oz, hz.at_, fun e he hb => by rw [hz.after e he] at hb; cases hb⟩
  induction f with
  | zero => intro done a s vs Ns w _ _ _ _ _ _ _ h; exact h.2.2.elim
  | succ f ih =>
    intro done a s vs Ns w hc hd hM hrel hsz hN hC h
    rcases h.2 with ⟨_, hmade, hU⟩ | h2
    · exact hT2 _ done a s vs Ns w hM (mk_full hA hM.len (relz hrel) hmade) hC hN hc hd hU
    refine AW.succ (List.ne_nil_of_mem (zready hd)) fun i hi => ?_
    by_cases hiz : i = z
    · subst hiz
      exact zstep (f + 1) done a s vs Ns w hM hrel hsz hN hC hd h
    · obtain ⟨oi, ho, v, s', hk, hn⟩ := h2 i (ready_mono hi hiz)
      refine step_any hA hsel hM hrel hsz hC hi ho hk fun vs' Ns' w' hM' hrel' hC' => ?_
      have hsz2 : (putK (kd i) a oi.dst v).tmps.size = a.tmps.size := by cases kd i <;> simp [putK, put_size]
      exact ih (done.setIfInBounds i true) _ s' vs' Ns' w' (hc.set hi) (by rw [getD_set_ne true hiz]; exact hd) hM' hrel' (fun m hm => by rw [hsz2]; exact hsz m hm) (by rw [hsz2]; exact hN) hC' (by rw [Array.setIfInBounds_comm _ _ hiz]; exact hn)

def regionV (ops : Array Oper) (ks ks2 : List Kd) (D ix M D2 ix2 ord rest : List Nat) (z d : Nat) : Bool :=
  Region.noSelect ops && allB .any ops D ix (fun j => ks.getD j .tail) && masksB .any ops M && allB .any ops (d :: D2) (z :: ix2) (fun j => ks2.getD j .tail) && ((z :: (ord ++ rest)).all fun k => Nat.blt k ops.size) && ((ord ++ rest).length + 1 == ops.size) &&
    alB .any ops D ix (fun j => ks.getD j .tail) z d && ks.all noS && (match ks2.getD z .tail with | .mk 0 => true | _ => false) &&
    lexO .any ops (fun j => ks.getD j .tail) ix M (fun o done => (o == rest) && (done.getD z false && (ix2.all fun i => !(i == z) && !done.getD i false) && lexO .any ops (fun j => ks2.getD j .tail) (z :: ix2) M (fun o done => seqO .any ops o done) (z :: rest) (done.setIfInBounds z false))) (ord ++ rest) ((Array.replicate ops.size false).setIfInBounds z true)
/-- makers first; then, beside a new variable that may be made at any time: whatever order again, its last operations in order -/
theorem c_regV (hW : Cl w0 L W) {id : Nat} {os : List Oper} {oz : Oper} {t n : Nat} {zc : List Value} (S : List Nat) (ks : List Kd) (ms : List Mk) (V : List (List Value)) (ix M S2 : List Nat) (ks2 : List Kd) (D2 ix2 ord rest : List Nat) (z d : Nat) (hm : P.follows .mixedOrders = true) (hB : regionV os.toArray ks ks2 (ms.map Mk.d) ix M D2 ix2 ord rest z d = true) (hV : V.length = ms.length) (hd : (ms.all fun k => Nat.blt k.d bs.length) = true) (hd2 : ((d :: D2).all fun k => Nat.blt k bs.length) = true)
    (hoz : os[z]? = some oz) (hal : ∀ ρ w, (execOp ρ oz).run P w = .ok (.value (.pointer (some ⟨w.heap.size, 0, none⟩))) (w.alloc (.cells zc.toArray t))) (hzn : zc.length = n)
    (h : lx P os.toArray w0 S ms (fun _ _ => False)
      (fun _ a' s' => Full ms s'.2 a' s'.1 fun a' L' => ∃ (ms2 : List Mk) (V2 : List (List Value)), (ms2.map Mk.d = D2 ∧ V2.length = ms2.length) ∧ lx P os.toArray w0 S2 (⟨d, allocX t n⟩ :: ms2) (fun a' s' => Full (⟨d, allocX t n⟩ :: ms2) s'.2 a' s'.1 fun a' L' => ∀ w', Cl w0 L' w' → Q .normal a' w') (fun l' a' s' => Full (⟨d, allocX t n⟩ :: ms2) s'.2 a' s'.1 fun a' L' => ∀ w', Cl w0 L' w' → LW r m P os.toArray Q l' a' w') ((z :: rest).map fun j => ks2.getD j .tail) (pickL os.toArray (z :: rest)) a' (L', zc :: V2)) ((ord ++ rest).map fun j => ks.getD j .tail) (pickL os.toArray (ord ++ rest)) (fr bs us ds) (L, V)) : CW r m P (Code.region id os.toArray true) Q (fr bs us ds) W := by
  simp only [regionV, Bool.and_eq_true, beq_iff_eq] at hB
  obtain ⟨⟨⟨⟨⟨⟨⟨⟨⟨hsel, hall⟩, hM⟩, hall2⟩, hv⟩, hlen⟩, hzB⟩, hnS⟩, hkz⟩, hlex⟩ := hB
  obtain ⟨oz', hz⟩ := alB_spec hzB
  have hoz' : oz' = oz := by
    have h1 := hz.at_
    simp only [List.getElem?_toArray] at h1
    rw [hoz] at h1; injection h1 with h1; exact h1.symm
  subst hoz'
  have hns : ∀ i, noS (ks.getD i .tail) = true := fun i => by
    rcases Nat.lt_or_ge i ks.length with hi | hi
    · rw [List.getD_eq_getElem?_getD, List.getElem?_eq_getElem hi]
      exact List.all_eq_true.1 hnS _ (List.getElem_mem hi)
    · rw [List.getD_eq_getElem?_getD, List.getElem?_eq_none hi]; rfl
  have hkz' : ks2.getD z .tail = .mk 0 := by
    cases hk : ks2.getD z .tail with
    | mk i =>
      rw [hk] at hkz
      cases i with
      | zero => rfl
      | succ i => cases hkz
    | _ => rw [hk] at hkz; cases hkz
  have hv' : ∀ k ∈ z :: (ord ++ rest), k < os.toArray.size := fun k hk => by
    have := List.all_eq_true.1 hv k hk
    rwa [Nat.blt_eq] at this
  have hzlt := hv' z (by simp)
  have sz : ∀ {k : Mk} {l : List Mk}, (l.all fun k => Nat.blt k.d bs.length) = true → k ∈ l → k.d < (fr bs us ds).tmps.size := fun hl hk => by
    have := List.all_eq_true.1 hl _ hk
    rw [Nat.blt_eq] at this
    simpa [fr, toL_len] using this
  obtain ⟨T, hT⟩ : ∃ T : Act → List Blk → Prop, T = fun a' L' => ∃ (ms2 : List Mk) (V2 : List (List Value)), (ms2.map Mk.d = D2 ∧ V2.length = ms2.length) ∧ lx P os.toArray w0 S2 (⟨d, allocX t n⟩ :: ms2) (fun a' s' => Full (⟨d, allocX t n⟩ :: ms2) s'.2 a' s'.1 fun a' L' => ∀ w', Cl w0 L' w' → Q .normal a' w') (fun l' a' s' => Full (⟨d, allocX t n⟩ :: ms2) s'.2 a' s'.1 fun a' L' => ∀ w', Cl w0 L' w' → LW r m P os.toArray Q l' a' w') ((z :: rest).map fun j => ks2.getD j .tail) (pickL os.toArray (z :: rest)) a' (L', zc :: V2) := ⟨_, rfl⟩
  rw [← hT] at h
  obtain ⟨ck, hck⟩ : ∃ ck : Array Bool → Bool, ck = fun done => done.getD z false && (ix2.all fun i => !(i == z) && !done.getD i false) && lexO .any os.toArray (fun j => ks2.getD j .tail) (z :: ix2) M (fun o done => seqO .any os.toArray o done) (z :: rest) (done.setIfInBounds z false) := ⟨_, rfl⟩
  have ne0 : ∀ i, (Array.replicate os.toArray.size false).getD i false = false := fun i => none_done _ _
  -- what is left of a second layer
  have lay2 : ∀ (l : List Nat) (done : Array Bool) (a : Act) (L' : List Blk) (w : World) (ms2 : List Mk) (V2 : List (List Value)) (vs : List (Option Value)) (Ns : List (List Blk)), (∀ k ∈ l, k < os.toArray.size) → Closed .any os.toArray done → Made (⟨d, allocX t n⟩ :: ms2) (zc :: V2) vs Ns → (∀ (q i : Nat), (z :: ix2)[q]? = some i → ((∃ v, vs[q]? = some (some v)) ↔ done.getD i false = true)) → ms2.map Mk.d = D2 → a.tmps.size = (fr bs us ds).tmps.size →
      lexO .any os.toArray (fun j => ks2.getD j .tail) (z :: ix2) M (fun o done => seqO .any os.toArray o done) l done = true → lx P os.toArray w0 S2 (⟨d, allocX t n⟩ :: ms2) (fun a' s' => Full (⟨d, allocX t n⟩ :: ms2) s'.2 a' s'.1 fun a' L' => ∀ w', Cl w0 L' w' → Q .normal a' w') (fun l' a' s' => Full (⟨d, allocX t n⟩ :: ms2) s'.2 a' s'.1 fun a' L' => ∀ w', Cl w0 L' w' → LW r m P os.toArray Q l' a' w') (l.map fun j => ks2.getD j .tail) (pickL os.toArray l) a (L', zc :: V2) → Cl w0 (L' ++ Ns.flatten) w → AW r m P .any os.toArray Q l.length done (puts a (⟨d, allocX t n⟩ :: ms2) vs) w := by
    intro l done a L' w ms2 V2 vs Ns hl hc hMd hrel hD hsz ht hk hC
    subst hD
    have h1 := anyC_lexO (P := P) (w0 := w0) (S := S2) (ms := ⟨d, allocX t n⟩ :: ms2) (md := .any) (kd := fun j => ks2.getD j .tail) (ix := z :: ix2) (U := fun f done a s => ∃ o, o.length = f ∧ seqO .any os.toArray o done = true ∧ Full (⟨d, allocX t n⟩ :: ms2) s.2 a s.1 fun a' L' => ∀ w', Cl w0 L' w' → LW r m P os.toArray Q (pickL os.toArray o) a' w') hM hsel (fun o done a s _ ht hT => ⟨o, rfl, ht, hT⟩) l done a (L', zc :: V2) hl hc ht hk
    have hall2' : allB .any os.toArray ((⟨d, allocX t n⟩ :: ms2 : List Mk).map Mk.d) (z :: ix2) (fun j => ks2.getD j .tail) = true := hall2
    exact anyC_any (N := a.tmps.size) (P := P) (r := r) (m := m) (Q := Q) (ms := ⟨d, allocX t n⟩ :: ms2) (allB_spec hall2') (Region.noSelect_spec hsel)
      (fun a s vs Ns w hM hs hC hR => by obtain ⟨L', hp, hk⟩ := Full.use hM hs hR; exact hk w (hC.perm hp)) (fun f done a s vs Ns w hM hs hC _ ⟨o, hf, ht, hT⟩ => by obtain ⟨L', hp, hk⟩ := Full.use hM hs hT; subst hf; exact AW_seqO o done _ w ht (hk w (hC.perm hp))) l.length done a (L', zc :: V2) vs Ns w hMd hrel (fun k hk => by rw [hsz]; exact sz (l := ⟨d, allocX t n⟩ :: ms2) (by simpa [List.all_map, Function.comp_def] using hd2) hk) rfl hC h1
  have H : AW r m P .any os.toArray Q os.toArray.size (Array.replicate os.toArray.size false) (fr bs us ds) W.drew := by
    have hc0 : Closed .any os.toArray ((Array.replicate os.toArray.size false).setIfInBounds z true) := fun j oj hj hd e he hb => by
      by_cases hjz : z = j
      · subst hjz
        obtain rfl : oj = oz' := Option.some.inj (hj.symm.trans hz.at_)
        rw [hz.after e he] at hb; cases hb
      · rw [getD_set_ne false hjz, ne0] at hd; cases hd
    have h1 := anyC_lexO (P := P) (w0 := w0) (S := S) (ms := ms) (md := .any) (kd := fun j => ks.getD j .tail) (ix := ix) (R := fun _ _ => False) (T := fun _ a' s' => Full ms s'.2 a' s'.1 T) (U := fun f done a s => f = rest.length ∧ Closed .any os.toArray done ∧ ck done = true ∧ Full ms s.2 a s.1 T)
      hM hsel (fun o done a s hc ht hT => by
        simp only [Bool.and_eq_true, beq_iff_eq] at ht
        refine ⟨by rw [ht.1], hc, ?_, hT⟩
        rw [hck]
        simp only [Bool.and_eq_true]; exact ht.2) (ord ++ rest) ((Array.replicate os.toArray.size false).setIfInBounds z true) (fr bs us ds) (L, V) (fun k hk => hv' k (by simp only [List.mem_cons]; exact .inr hk)) hc0 hlex h
    have relr : ∀ {done : Array Bool} {b : Bool}, (ix2.all fun i => !(i == z) && !(done.getD i false)) = true → done.getD z false = b → ∀ (vs : List (Option Value)) (v0 : Option Value), v0.isSome = b → (∀ v ∈ vs, v = none) → ∀ (q i : Nat), (z :: ix2)[q]? = some i → ((∃ v, (v0 :: vs)[q]? = some (some v)) ↔ done.getD i false = true) := by
      intro done b hix hb vs v0 hv0 hvs q i hq
      cases q with
      | zero =>
        simp only [List.getElem?_cons_zero, Option.some.injEq] at hq ⊢
        subst hq
        rw [hb, ← hv0]
        cases v0 <;> simp
      | succ q =>
        simp only [List.getElem?_cons_succ] at hq ⊢
        have := List.all_eq_true.1 hix i (List.mem_of_getElem? hq)
        simp only [Bool.and_eq_true, Bool.not_eq_true'] at this
        rw [this.2]
        constructor
        · rintro ⟨v, hv⟩
          have := hvs _ (List.mem_of_getElem? hv)
          cases this
        · intro h; cases h
    have h2 := anyC_v (N := (fr bs us ds).tmps.size) (P := P) (r := r) (m := m) (Q := Q) (allB_spec hall) (Region.noSelect_spec hsel) hz hns hal
      (fun f done a s vs Ns w g hMd hs hC hsz ⟨hf, hc, ht, hF⟩ => by
        rw [hck] at ht
        simp only [Bool.and_eq_true] at ht
        obtain ⟨⟨hzt, hix⟩, ht⟩ := ht
        obtain ⟨L', hp, hk⟩ := Full.use hMd hs hF
        rw [hT] at hk
        obtain ⟨ms2, V2, ⟨hD, hV2⟩, hk⟩ := hk
        subst hf
        have hpick : pickL os.toArray (z :: rest) = oz' :: pickL os.toArray rest := by simp only [pickL, hz.at_]
        rw [List.map_cons, hkz', hpick] at hk
        obtain ⟨v, s2, ⟨_, rfl, _⟩, hk⟩ := hk
        simp only [putK] at hk
        have ht' : lexO .any os.toArray (fun j => ks2.getD j .tail) (z :: ix2) M (fun o done => seqO .any os.toArray o done) rest done = true := by
          rw [lexO, hkz'] at ht
          simp only [Bool.and_eq_true] at ht
          rw [set_again hzt] at ht
          exact ht.2
        have h3 := lay2 rest done (puts a ms vs) L' w ms2 V2 (some (.pointer (some ⟨g, 0, none⟩)) :: List.replicate ms2.length none) ([⟨g, zc, t⟩] :: List.replicate ms2.length []) (fun k hk => hv' k (by simp [hk])) hc (.yes ⟨g, rfl, rfl, hzn⟩ (none_made ms2 V2 hV2))
          (relr hix hzt _ _ rfl (fun v hv => List.eq_of_mem_replicate hv)) hD (by rw [puts_size, hsz]) ht' hk (hC.perm (by
            have : (List.replicate ms2.length ([] : List Blk)).flatten = [] := by simp
            rw [List.flatten_cons, this, List.append_nil, List.append_assoc]
            exact (List.Perm.append_left _ List.perm_append_comm).trans (by rw [← List.append_assoc]; exact hp.append_right _)))
        rw [puts, none_puts, puts_put ms vs a (by rw [← hz.dst]; exact hz.ds), ← hz.dst] at h3
        exact h3)
      (fun f done a s vs Ns w hMd hs hC hsz hc hd ⟨hf, _, ht, hF⟩ => by
        rw [hck] at ht
        simp only [Bool.and_eq_true] at ht
        obtain ⟨⟨-, hix⟩, ht⟩ := ht
        rw [set_back hd] at ht
        obtain ⟨L', hp, hk⟩ := Full.use hMd hs hF
        rw [hT] at hk
        obtain ⟨ms2, V2, ⟨hD, hV2⟩, hk⟩ := hk
        subst hf
        have hix' : (ix2.all fun i => !(i == z) && !(done.getD i false)) = true := List.all_eq_true.2 fun i hi => by
          have := List.all_eq_true.1 hix i hi
          simp only [Bool.and_eq_true, Bool.not_eq_true', beq_eq_false_iff_ne] at this ⊢
          rw [getD_set_ne false (Ne.symm this.1)] at this
          exact this
        have h3 := lay2 (z :: rest) done (puts a ms vs) L' w ms2 V2 (none :: List.replicate ms2.length none) ([] :: List.replicate ms2.length []) (fun k hk => hv' k (by
          rcases List.mem_cons.1 hk with rfl | hk
          · simp
          · simp [hk])) hc (.no (none_made ms2 V2 hV2)) (relr hix' (getD_false_both hd) _ _ rfl (fun v hv => List.eq_of_mem_replicate hv)) hD (by rw [puts_size, hsz]) ht hk (hC.perm (by
            have : (List.replicate ms2.length ([] : List Blk)).flatten = [] := by simp
            rw [List.flatten_cons, this, List.append_nil, List.append_nil]
            exact hp))
        rw [puts, none_puts] at h3
        exact h3)
      (ord ++ rest).length (Array.replicate os.toArray.size false) (fr bs us ds) (L, V) _ _ W.drew (fun j oj _ hd => by rw [ne0] at hd; cases hd) (by simp only [List.size_toArray] at hzlt; simp [hzlt]) (none_made ms V hV) (made0 fun i _ => none_done _ _) (fun k hk => sz hd hk) rfl (by
        have : (List.replicate ms.length ([] : List Blk)).flatten = [] := by simp
        rw [this, List.append_nil]
        exact hW.drew) h1
    rw [none_puts, hlen] at h2
    exact h2
  cases r with
  | none => exact wp_region_any hm H
  | some k => exact wpIn_region_any hm H
theorem al_agg {o : Oper} {t : TypeId} {zc : List Value} (hz : TyZ P t (.agg zc.toArray)) (ho : o.op = .alloc t) : ∀ ρ w, (execOp ρ o).run P w = .ok (.value (.pointer (some ⟨w.heap.size, 0, none⟩))) (w.alloc (.cells zc.toArray t)) := fun ρ w => by
  unfold execOp
  simp only [ho, Instr.alloc, newVar, newRow, Value.cells, Sem.run_bind, Sem.run_pure, hz w, run_newObj, Result.andThen_ok]
  rfl
end
end Go.Proofs.Ytoegpalacppllaa

/- A query, by the reference. -/
namespace Go.Proofs.Ytoegpalacppllaa
open Go.RowKit Pl
open Tr Hn
/-- no box, as cells -/
theorem z39_no : (z39 : List Value) = boC noBo Sl.no := by kernel_rfl
set_option maxRecDepth 10000 in
/-- headend/headendref08.Ask -/
theorem g_rAsk (b : Bo) (t : Sl) (ra : Option Addr) (rn rc : Nat) (l : List (Int × Int)) (f : Int) (hl : b.l.length ≤ 100) (hq : l.length ≤ 100) : GivesX Try.prog 13 [.agg (boC b t).toArray, .slice ra rn rc, .int .i64 f].toArray (fun w => RdI w t b.l ∧ RdB w ⟨ra, rn, rc⟩ l) (askV b l f) := by
  refine givesX_of Try.func13 rfl (bs := [.agg (boC b t).toArray, .slice ra rn rc, .int .i64 f, undef, undef, undef, undef, undef, undef, undef, undef, undef, undef, undef, undef, undef, undef, undef, undef, undef, undef, undef, undef, undef, undef, undef, undef, undef, undef, undef, undef, undef, undef, undef, undef, undef, undef, undef, undef, undef, undef, undef, undef, undef, undef, undef, undef, undef, undef, undef, undef]) rfl ?_
  intro w hP hW
  have hn : rn = l.length := hP.2.len
  refine c_seq ?_
  refine c_reg ?_
  refine l_box hW rfl rfl rfl rfl ?_
  intro g1 W hW
  refine l_alloc hW tyZ39 rfl rfl rfl ?_
  intro g2 W hW
  refine l_val (r_assign (v := .bool _) rfl rfl) rfl rfl ?_
  refine l_val (r_assign (v := .int _ _) rfl rfl) rfl rfl ?_
  refine l_end ?_
  refine n_then ?_
  refine c_seq ?_
  refine c_seq ?_
  refine c_reg ?_
  refine l_loadA hW 1 tyA39 rfl rfl rfl rfl rfl (by first | rfl | exact kc_len _ | exact kcf_len _ | exact boC_len _ _ | (simp; done)) ?_
  refine l_callR hW (g_rCheckBox b t hl) en16 (hP.1.past hW.below) rfl rfl rfl rfl ?_
  intro W hW
  refine l_val (r_assign (v := .int _ _) rfl rfl) rfl rfl ?_
  refine l_end ?_
  refine n_then ?_
  refine c_seq ?_
  refine c_reg ?_
  refine l_val (r_move (v := .int _ _) rfl rfl) rfl rfl ?_
  refine l_val (r_neq rfl rfl rfl rfl) rfl rfl ?_
  refine l_split ?_ ?_
  · intro hc1
    replace hc1 := of_decide_eq_true hc1
    refine l_end ?_
    refine n_then ?_
    refine c_true rfl ?_
    refine c_seq ?_
    refine c_reg ?_
    refine l_val (r_build (ps := []) (bld39_) rfl rfl) rfl rfl ?_
    refine l_val (r_move (v := .int _ _) rfl rfl) rfl rfl ?_
    refine l_storeA hW 0 tyA39 rfl rfl rfl rfl rfl rfl (by first | rfl | exact kc_len _ | exact kcf_len _ | exact boC_len _ _ | (simp; done)) (by first | rfl | exact kc_len _ | exact kcf_len _ | exact boC_len _ _ | (simp; done)) (by first | exact kc_one _ | exact kcf_one _ | exact boC_one _ _ | (simp [Value.oneCell']; done)) ?_
    intro W hW
    refine l_val (r_assign (v := .bool _) rfl rfl) rfl rfl ?_
    refine l_val (r_assign (v := .int _ _) rfl rfl) rfl rfl ?_
    refine l_end ?_
    refine n_then ?_
    refine c_ret ?_
    refine r_then ?_
    refine ret_cell_tmp2 hW 0 tyA39 rfl rfl rfl (by first | rfl | exact kc_len _ | exact kcf_len _ | exact boC_len _ _ | (simp; done)) rfl rfl ?_
    exact ⟨_, _, rfl, askV_no (askE_b hc1) (hc1) z39_no, hW.sub (List.nil_sublist _)⟩
  · intro hc1
    replace hc1 := of_decide_eq_false hc1
    obtain ⟨hs, hu, hb1, hb2, hb3, hb4, hb5, hb6, hb7, hb8, hb9, hb10⟩ := chkB_ok hc1
    refine l_end ?_
    refine n_then ?_
    refine c_false rfl ?_
    refine c_skip ?_
    refine n_then ?_
    refine c_seq ?_
    refine c_seq ?_
    refine c_reg ?_
    refine l_val (r_fieldAddr 0 Try.underlying39 rfl tyA26.size rfl rfl rfl) rfl rfl ?_
    refine l_loadP hW 1 tyA26 rfl rfl rfl rfl rfl (by first | rfl | omega | (simp; done) | (simp; omega)) rfl ?_
    refine l_val (r_move (v := .slice _ _ _) rfl rfl) rfl rfl ?_
    refine l_callR hW (g_rsubsets b.s ra rn rc l hs hq) en42 (hP.2.past hW.below) rfl rfl rfl rfl ?_
    intro W hW
    refine l_val (r_assign (v := .int _ _) rfl rfl) rfl rfl ?_
    refine l_end ?_
    refine n_then ?_
    refine c_seq ?_
    refine c_reg ?_
    refine l_val (r_move (v := .int _ _) rfl rfl) rfl rfl ?_
    refine l_val (r_neq rfl rfl rfl rfl) rfl rfl ?_
    refine l_split ?_ ?_
    · intro hc2
      replace hc2 := of_decide_eq_true hc2
      refine l_end ?_
      refine n_then ?_
      refine c_true rfl ?_
      refine c_seq ?_
      refine c_reg ?_
      refine l_val (r_build (ps := []) (bld39_) rfl rfl) rfl rfl ?_
      refine l_val (r_move (v := .int _ _) rfl rfl) rfl rfl ?_
      refine l_storeA hW 0 tyA39 rfl rfl rfl rfl rfl rfl (by first | rfl | exact kc_len _ | exact kcf_len _ | exact boC_len _ _ | (simp; done)) (by first | rfl | exact kc_len _ | exact kcf_len _ | exact boC_len _ _ | (simp; done)) (by first | exact kc_one _ | exact kcf_one _ | exact boC_one _ _ | (simp [Value.oneCell']; done)) ?_
      intro W hW
      refine l_val (r_assign (v := .bool _) rfl rfl) rfl rfl ?_
      refine l_val (r_assign (v := .int _ _) rfl rfl) rfl rfl ?_
      refine l_end ?_
      refine n_then ?_
      refine c_ret ?_
      refine r_then ?_
      refine ret_cell_tmp2 hW 0 tyA39 rfl rfl rfl (by first | rfl | exact kc_len _ | exact kcf_len _ | exact boC_len _ _ | (simp; done)) rfl rfl ?_
      exact ⟨_, _, rfl, askV_no (askE_s hc1 hc2) (hc2) z39_no, hW.sub (List.nil_sublist _)⟩
    · intro hc2
      replace hc2 := of_decide_eq_false hc2
      obtain ⟨hq2, hbb⟩ := subsE_ok hc2
      refine l_end ?_
      refine n_then ?_
      refine c_false rfl ?_
      refine c_skip ?_
      refine n_then ?_
      refine c_seq ?_
      refine c_seq ?_
      refine c_reg ?_
      refine l_val (r_move (v := .int _ _) rfl rfl) rfl rfl ?_
      refine l_val (r_lss rfl rfl rfl rfl) rfl rfl ?_
      refine l_split ?_ ?_
      · intro hc3
        replace hc3 := of_decide_eq_true hc3
        refine l_val (r_move (v := .bool _) rfl rfl) rfl rfl ?_
        refine l_not (by kernel_rfl) rfl ?_
        refine l_not (by kernel_rfl) rfl ?_
        refine l_not (by kernel_rfl) rfl ?_
        refine l_not (by kernel_rfl) rfl ?_
        refine l_val (r_pick (v := .bool _) rfl rfl rfl) rfl rfl ?_
        refine l_end ?_
        refine n_then ?_
        refine c_true rfl ?_
        refine c_seq ?_
        refine c_reg ?_
        refine l_val (r_build (ps := []) (bld39_) rfl rfl) rfl rfl ?_
        refine l_storeA hW 0 tyA39 rfl rfl rfl rfl rfl rfl (by first | rfl | exact kc_len _ | exact kcf_len _ | exact boC_len _ _ | (simp; done)) (by first | rfl | exact kc_len _ | exact kcf_len _ | exact boC_len _ _ | (simp; done)) (by first | exact kc_one _ | exact kcf_one _ | exact boC_one _ _ | (simp [Value.oneCell']; done)) ?_
        intro W hW
        refine l_val (r_assign (v := .bool _) rfl rfl) rfl rfl ?_
        refine l_val (r_assign (v := .int _ _) rfl rfl) rfl rfl ?_
        refine l_end ?_
        refine n_then ?_
        refine c_ret ?_
        refine r_then ?_
        refine ret_cell_tmp2 hW 0 tyA39 rfl rfl rfl (by first | rfl | exact kc_len _ | exact kcf_len _ | exact boC_len _ _ | (simp; done)) rfl rfl ?_
        exact ⟨_, _, rfl, askV_no (askE_f hc1 hc2 (by omega)) (by decide) z39_no, hW.sub (List.nil_sublist _)⟩
      · intro hc3
        replace hc3 := of_decide_eq_false hc3
        refine l_val (r_move (v := .bool _) rfl rfl) rfl rfl ?_
        refine l_valG (r_move (v := .int _ _) rfl rfl) (by kernel_rfl) rfl ?_
        refine l_valG (r_move (v := .slice _ _ _) rfl rfl) (by kernel_rfl) rfl ?_
        refine l_valG (r_lenSlice Try.underlying40 rfl rfl) (by kernel_rfl) rfl ?_
        refine l_valG (r_gtr rfl rfl rfl rfl) (by kernel_rfl) rfl ?_
        refine l_split ?_ ?_
        · intro hc4
          replace hc4 := of_decide_eq_true hc4
          refine l_val (r_pick (v := .bool _) rfl rfl rfl) rfl rfl ?_
          refine l_end ?_
          refine n_then ?_
          refine c_true rfl ?_
          refine c_seq ?_
          refine c_reg ?_
          refine l_val (r_build (ps := []) (bld39_) rfl rfl) rfl rfl ?_
          refine l_storeA hW 0 tyA39 rfl rfl rfl rfl rfl rfl (by first | rfl | exact kc_len _ | exact kcf_len _ | exact boC_len _ _ | (simp; done)) (by first | rfl | exact kc_len _ | exact kcf_len _ | exact boC_len _ _ | (simp; done)) (by first | exact kc_one _ | exact kcf_one _ | exact boC_one _ _ | (simp [Value.oneCell']; done)) ?_
          intro W hW
          refine l_val (r_assign (v := .bool _) rfl rfl) rfl rfl ?_
          refine l_val (r_assign (v := .int _ _) rfl rfl) rfl rfl ?_
          refine l_end ?_
          refine n_then ?_
          refine c_ret ?_
          refine r_then ?_
          refine ret_cell_tmp2 hW 0 tyA39 rfl rfl rfl (by first | rfl | exact kc_len _ | exact kcf_len _ | exact boC_len _ _ | (simp; done)) rfl rfl ?_
          exact ⟨_, _, rfl, askV_no (askE_f hc1 hc2 (by omega)) (by decide) z39_no, hW.sub (List.nil_sublist _)⟩
        · intro hc4
          replace hc4 := of_decide_eq_false hc4
          refine l_val (r_pick (v := .bool _) rfl rfl rfl) rfl rfl ?_
          refine l_end ?_
          refine n_then ?_
          refine c_false rfl ?_
          refine c_skip ?_
          refine n_then ?_
          refine c_seq ?_
          refine c_seq ?_
          refine c_reg ?_
          refine l_val (r_fieldAddr 26 Try.underlying39 rfl tyC3.size rfl rfl rfl) rfl rfl ?_
          refine l_loadC hW 1 tyC3 rfl rfl rfl rfl rfl rfl ?_
          refine l_val (r_eql rfl rfl rfl rfl) rfl rfl ?_
          refine l_split ?_ ?_
          · intro hc5
            replace hc5 := of_decide_eq_true hc5
            refine l_end ?_
            refine n_then ?_
            refine c_true rfl ?_
            refine c_seq ?_
            refine c_reg ?_
            refine l_val (r_build (ps := []) (bld39_) rfl rfl) rfl rfl ?_
            refine l_storeA hW 0 tyA39 rfl rfl rfl rfl rfl rfl (by first | rfl | exact kc_len _ | exact kcf_len _ | exact boC_len _ _ | (simp; done)) (by first | rfl | exact kc_len _ | exact kcf_len _ | exact boC_len _ _ | (simp; done)) (by first | exact kc_one _ | exact kcf_one _ | exact boC_one _ _ | (simp [Value.oneCell']; done)) ?_
            intro W hW
            refine l_val (r_assign (v := .bool _) rfl rfl) rfl rfl ?_
            refine l_val (r_assign (v := .int _ _) rfl rfl) rfl rfl ?_
            refine l_end ?_
            refine n_then ?_
            refine c_ret ?_
            refine r_then ?_
            refine ret_cell_tmp2 hW 0 tyA39 rfl rfl rfl (by first | rfl | exact kc_len _ | exact kcf_len _ | exact boC_len _ _ | (simp; done)) rfl rfl ?_
            exact ⟨_, _, rfl, askV_no (askE_a hc1 hc2 (by omega) hc5) (by decide) z39_no, hW.sub (List.nil_sublist _)⟩
          · intro hc5
            replace hc5 := of_decide_eq_false hc5
            refine l_end ?_
            refine n_then ?_
            refine c_false rfl ?_
            refine c_skip ?_
            refine n_then ?_
            refine c_seq ?_
            refine c_regV hW [] [.q, .q, .q, .mk 0, .q, .mkd 1 0, .tail, .tail, .tail, .tail, .tail, .tail] [⟨44, fun _ => NewSl 4 1 l.length (tl (opens b l l.length))⟩, ⟨46, fun _ v Bs => ∃ s2 : Sl, v = .tuple #[.agg (boC (askd b (opens b l l.length) f) s2).toArray, .bool (plays b (opens b l l.length) f)] ∧ NewI s2 (askd b (opens b l l.length) f).l Bs⟩] [[], []] [3, 5] [0, 0, 0, 6, 0, 31, 63, 127, 127, 0, 767, 2047] [] [.q, .q, .q, .q, .q, .q, .q, .q, .q, .mk 0, .st 0, .q] [] [] [0, 1, 2, 3, 4, 5] [6, 7, 8, 10, 11] 9 11 (by kernel_rfl) (by kernel_rfl) rfl (by kernel_rfl) (by kernel_rfl) rfl (al_agg tyZ39 rfl) rfl ?_
            refine y_loadA 1 tyA39 rfl rfl rfl rfl rfl (by first | rfl | exact kc_len _ | exact kcf_len _ | exact boC_len _ _ | (simp; done)) (by decide) ?_
            refine y_loadA 1 tyA39 rfl rfl rfl rfl rfl (by first | rfl | exact kc_len _ | exact kcf_len _ | exact boC_len _ _ | (simp; done)) (by decide) ?_
            refine y_val (r_move (v := .slice _ _ _) rfl rfl) rfl rfl ?_
            refine y_callX 0 (g_rOpens b t ra rn rc l hs hu hl hq hbb) en44 rfl rfl (fun L2 w hs hC => ⟨hP.1.past hC.below, hP.2.past hC.below⟩) rfl rfl ?_
            refine y_val (r_move (v := .int _ _) rfl rfl) rfl rfl ?_
            refine y_callXd 1 0 en43 rfl rfl rfl rfl ?_ rfl ?_
            · rintro _ Bs ⟨ao, co, rfl, hO⟩
              exact ⟨_, _, g_rAsked b t ao l.length co (opens b l l.length) f (by omega) (by omega) (by omega) (by omega) (by omega) (by omega) hl (by rw [opens_len]; omega), fun M w hC => ⟨hP.1.past hC.below, hO.repT _ _ (hC.sub (List.sublist_append_right _ _))⟩, rfl⟩
            refine y_tail ?_
            refine y_made ?_
            rintro _ Bs1 ⟨ao, co, rfl, hO⟩
            refine y_made ?_
            rintro _ Bs2 ⟨s2, rfl, hN⟩
            refine ⟨[], [], ⟨rfl, rfl⟩, ?_⟩
            refine y_alloc 0 tyZ39 rfl rfl rfl rfl ?_
            refine y_val (r_move (v := .tuple _) rfl rfl) rfl rfl ?_
            refine y_val (r_extract (v := .agg _) rfl rfl rfl) rfl rfl ?_
            refine y_val (r_extract (v := .bool _) rfl rfl rfl) rfl rfl ?_
            refine y_stA 0 tyA39 rfl rfl rfl rfl (by first | rfl | exact kc_len _ | exact kcf_len _ | exact boC_len _ _ | (simp; done)) (by first | exact kc_one _ | exact kcf_one _ | exact boC_one _ _ | (simp [Value.oneCell']; done)) ?_
            refine y_val (r_assign (v := .bool _) rfl rfl) rfl rfl ?_
            refine y_end ?_
            refine y_made ?_
            rintro _ _ ⟨g3, rfl, rfl, -⟩
            intro W hW
            replace hW := (show Cl _ (_ :: (Bs2 ++ (Bs1 ++ [_, _]))) _ from hW).perm (List.Perm.cons _ perm2)
            refine n_then ?_
            refine c_seq ?_
            refine c_reg ?_
            refine l_loadA hW 0 tyA39 rfl rfl rfl rfl rfl (by first | rfl | exact kc_len _ | exact kcf_len _ | exact boC_len _ _ | (simp; done)) ?_
            refine l_val (r_move (v := .bool _) rfl rfl) rfl rfl ?_
            refine l_storeA hW 1 tyA39 rfl rfl rfl rfl rfl rfl (by first | rfl | exact kc_len _ | exact kcf_len _ | exact boC_len _ _ | (simp; done)) (by first | rfl | exact kc_len _ | exact kcf_len _ | exact boC_len _ _ | (simp; done)) (by first | exact kc_one _ | exact kcf_one _ | exact boC_one _ _ | (simp [Value.oneCell']; done)) ?_
            intro W hW
            refine l_val (r_assign (v := .bool _) rfl rfl) rfl rfl ?_
            refine l_val (r_assign (v := .int _ _) rfl rfl) rfl rfl ?_
            refine l_end ?_
            refine n_then ?_
            refine c_ret ?_
            refine ret_cell_tmp2 hW 1 tyA39 rfl rfl rfl (by first | rfl | exact kc_len _ | exact kcf_len _ | exact boC_len _ _ | (simp; done)) rfl rfl ?_
            exact ⟨_, _, rfl, askV_yes (askE_0 hc1 hc2 (by omega) hc5) hN, (show Cl _ ((_ :: [_, _]) ++ (Bs2 ++ Bs1)) _ from hW).sub ((List.sublist_append_left Bs2 Bs1).trans (List.sublist_append_right _ _))⟩

end Go.Proofs.Ytoegpalacppllaa

/-
  DERIVED: THE SHELF's CONTRACTS AT THIS DUMP, IN PLAIN WORDS (tools/lay-plain.mjs out of 'TryShelf.lean', which tools/lay-shelf.mjs wrote): THE SAME DECLARATIONS UNDER THE SAME NAMES: 'import', 'namespace', 'open', 'def', 'theorem' AND NOTHING ELSE: no command of the shelf's: FOR A HAND-IN. Each laying: the table of numbers ('.._ren') and one theorem, a field a fact of the dump's own or the kernel's comparison; each contract: ONE APPLICATION.
-/
namespace Go.Proofs
open Go.Shelf
def Try.lays125_ren : Go.Shelf.Ren := ⟨fun | 125 => 135 | 128 => 151 | 129 => 152 | n => n, fun | 46 => 169 | 3 => 3 | 51 => 207 | 53 => 22 | 4 => 4 | 5 => 5 | 9 => 9 | n => n, fun | n => n⟩
theorem Try.lays125 : Go.Proofs.Lays.n125 Try.prog Try.lays125_ren := {
  mixed := by kernel_rfl
  f125 := Try.func135.trans (congrArg some (by kernel_rfl))
  f128 := Try.func151.trans (congrArg some (by kernel_rfl))
  f129 := Try.func152.trans (congrArg some (by kernel_rfl))
  t3 := Try.underlying3
  a3 := Try.isAgg3
  z3 := Try.sizeOf3
  v3 := Try.zeroValue3
  t4 := Try.underlying4
  a4 := Try.isAgg4
  z4 := Try.sizeOf4
  v4 := Try.zeroValue4
  t5 := Try.underlying5
  a5 := Try.isAgg5
  z5 := Try.sizeOf5
  v5 := Try.zeroValue5
  t9 := Try.underlying9
  a9 := Try.isAgg9
  z9 := Try.sizeOf9
  v9 := Try.zeroValue9
  t46 := Try.underlying169
  a46 := Try.isAgg169
  z46 := Try.sizeOf169
  v46 := Try.zeroValue169
  t51 := Try.underlying207
  a51 := Try.isAgg207
  z51 := Try.sizeOf207
  v51 := Try.zeroValue207
  t53 := Try.underlying22
  a53 := Try.isAgg22
  z53 := Try.sizeOf22
  v53 := Try.zeroValue22 }
/-- bits.Len: "Len returns the minimum number of bits required to represent x; the result is 0 for x == 0.": IT RETURNS 'Lib.bitLen x'; the world is as it was. (A uint has 64 bits in the model.) ITS CALLEE bits.Len64 IS MET BY ITS OWN CONTRACT OFF THE SHELF (lay that first). (LAID: no walk: one application.) -/
theorem Try.bits_Len (x : Int) (w : World) (h0 : 0 ≤ x) (h1 : x ≤ 18446744073709551615) :
    Calls Try.prog 135 #[.int .u64 x] w fun e w' => e = .returned (.int .i64 (Lib.bitLen x.toNat)) ∧ w' = w := Any.bits_Len Try.lays125 x w h0 h1
def Try.laysNm225_ren : Go.Shelf.Ren := ⟨fun | 25 => 74 | 31 => 105 | 32 => 106 | 37 => 127 | n => n, fun | 22 => 35 | 3 => 3 | 4 => 4 | 40 => 169 | 0 => 0 | n => n, fun | n => n⟩
theorem Try.laysNm225 : Go.Proofs.Lays2.n25 Try.prog Try.laysNm225_ren := {
  mixed := by kernel_rfl
  f25 := Try.func74.trans (congrArg some (by kernel_rfl))
  f31 := Try.func105.trans (congrArg some (by kernel_rfl))
  f32 := Try.func106.trans (congrArg some (by kernel_rfl))
  f37 := Try.func127.trans (congrArg some (by kernel_rfl))
  t0 := Try.underlying0
  a0 := Try.isAgg0
  z0 := Try.sizeOf0
  v0 := Try.zeroValue0
  t3 := Try.underlying3
  a3 := Try.isAgg3
  z3 := Try.sizeOf3
  v3 := Try.zeroValue3
  t4 := Try.underlying4
  a4 := Try.isAgg4
  z4 := Try.sizeOf4
  v4 := Try.zeroValue4
  t22 := Try.underlying35
  a22 := Try.isAgg35
  z22 := Try.sizeOf35
  v22 := Try.zeroValue35
  t40 := Try.underlying169
  a40 := Try.isAgg169
  z40 := Try.sizeOf169
  v40 := Try.zeroValue169 }
open Go.RowKit Go.Lib in
/-- slices.BinarySearch at []int: "BinarySearch searches for target in a sorted slice and returns the earliest position where target is found, or the position where target would appear in the sort order; it also returns a bool saying whether the target is really found in the slice. The slice must be sorted in increasing order.": OF A SORTED SLICE IT RETURNS how many elements are less than the target, and whether the target is among the elements; the world is as it was but for the count of draws. 'zs': what the cells behind the slice's address hold; 'zs.take n': its elements. (Of a slice that is not sorted: no contract here.) (LAID: no walk: one application.) -/
theorem Try.slices_BinarySearch_int (b off n c : Nat) (zs : List Int) (x : Int) (w : World) (hz : n ≤ zs.length) (hbig : n < 4611686018427387904) (hc : ∀ j, j < zs.length → w.cell? ⟨b, off + j, none⟩ = some (.int .i64 (zs.getD j 0))) (hs : (zs.take n).Pairwise (· ≤ ·)) :
    Calls Try.prog 74 #[.slice (some ⟨b, off, none⟩) n c, .int .i64 x] w fun e w' => e = .returned (.tuple #[.int .i64 ((zs.take n).countP (· < x) : Nat), .bool ((zs.take n).contains x)]) ∧ ∃ q, w' = w.drewN q := Any.slices_BinarySearch_int Try.laysNm225 b off n c zs x w hz hbig hc hs
open Go.RowKit Go.Lib in
/-- slices.BinarySearch at []int of no element: position 0, not found; the world is as it was. (LAID: no walk: one application.) -/
theorem Try.slices_BinarySearch_int_empty (a : Option Addr) (c : Nat) (x : Int) (w : World) :
    Calls Try.prog 74 #[.slice a 0 c, .int .i64 x] w fun e w' => e = .returned (.tuple #[.int .i64 0, .bool false]) ∧ w' = w := Any.slices_BinarySearch_int_empty Try.laysNm225 a c x w
end Go.Proofs

/- Nodes and trees, by the program. -/
namespace Go.Proofs.Ytoegpalacppllaa
open Go.RowKit Pl
open Tr Hn
theorem bitLen_tab : (Tr.upto 128 fun v => Nat.ble v 0 || Nat.beq (Lib.bitLen v) (lev v + 1)) = true := by decide +kernel
theorem bitLen_lev {v : Nat} (h0 : 0 < v) (h : v < 128) : Lib.bitLen v = lev v + 1 := by
  have := Tr.upto_get bitLen_tab h
  simp only [Bool.or_eq_true, Nat.ble_eq] at this
  rcases this with h1 | h1
  · omega
  · exact Nat.eq_of_beq_eq_true h1
theorem g_Len (n : Nat) (h : n < 18446744073709551616) : Gives Try.prog 135 [.int .u64 (n : Int)].toArray (.int .i64 (Lib.bitLen n)) := fun w =>
  (Try.bits_Len n w (by omega) (by omega)).mono fun e w' ⟨he, hw⟩ => ⟨he, hw ▸ Below.refl _ _⟩
set_option maxRecDepth 10000 in
/-- (headend/cover.node).level -/
theorem g_plevel (v : Nat) (h0 : 0 < v) (h : v < 128) : Gives Try.prog 153 [.int .i64 (v : Int)].toArray (.int .i64 ((lev v) : Int)) := by
  refine gives_of Try.func153 rfl (bs := [.int .i64 (v : Int), undef, undef, undef, undef, undef, undef]) rfl ?_
  intro w hW
  have hb := bitLen_lev h0 h
  have hlv := lev_le h
  refine c_seq ?_
  refine c_reg ?_
  refine l_val (r_assign (v := .int _ _) rfl rfl) rfl rfl ?_
  refine l_end ?_
  refine n_then ?_
  refine c_seq ?_
  refine c_reg ?_
  refine l_val (r_move (v := .int _ _) rfl rfl) rfl rfl ?_
  refine l_val (r_conv_i64_u64 (n := v) Try.underlying177 Try.underlying169 rfl rfl) rfl rfl ?_
  rw [show (BitVec.ofNat 64 v).toNat = v by rw [BitVec.toNat_ofNat]; omega]
  refine l_call hW (g_Len v (by omega)) en135 rfl rfl rfl rfl ?_
  intro W hW
  rw [hb]
  refine l_val (r_subN (m := lev v + 1) (n := 1) rfl rfl rfl (by omega) (by omega)) rfl rfl ?_
  refine l_val (r_assign (v := .int _ _) rfl rfl) rfl rfl ?_
  refine l_end ?_
  refine n_then ?_
  refine c_ret ?_
  refine ret_tmp (v := .int .i64 ((lev v) : Int)) rfl ?_ ⟨rfl, hW.below⟩
  rfl

set_option maxRecDepth 10000 in
/-- (headend/cover.tree).size -/
theorem g_psize (s : Sc) (h0 : 0 ≤ s.d) (h6 : s.d ≤ 6) : Gives Try.prog 125 [.agg [.int .u8 s.k, .int .i64 s.d, .int .i64 (strideN s.d : Int)].toArray].toArray (.int .i64 ((p2 s.d.toNat : Nat) : Int)) := by
  refine gives_of Try.func125 rfl (bs := [.agg [.int .u8 s.k, .int .i64 s.d, .int .i64 (strideN s.d : Int)].toArray, undef, undef, undef, undef, undef]) rfl ?_
  intro w hW
  have hp := p2_le (n := s.d.toNat) (by omega)
  refine c_seq ?_
  refine c_reg ?_
  refine l_box hW rfl rfl rfl rfl ?_
  intro g1 W hW
  refine l_val (r_assign (v := .int _ _) rfl rfl) rfl rfl ?_
  refine l_end ?_
  refine n_then ?_
  refine c_seq ?_
  refine c_reg ?_
  refine l_val (r_fieldAddr 1 Try.underlying124 rfl tyC3.size rfl rfl rfl) rfl rfl ?_
  refine l_loadC hW 0 tyC3 rfl rfl rfl rfl rfl rfl ?_
  refine l_val (r_shlZ (m := 1) rfl rfl rfl (by omega) (by omega) (by omega)) rfl rfl ?_
  refine l_val (r_assign (v := .int _ _) rfl rfl) rfl rfl ?_
  refine l_end ?_
  refine n_then ?_
  refine c_ret ?_
  refine ret_tmp (v := .int .i64 ((p2 s.d.toNat : Nat) : Int)) rfl ?_ ⟨rfl, hW.below⟩
  exact congrArg (fun n : Nat => Value.int .i64 (n : Int)) (Nat.one_mul _)

set_option maxRecDepth 10000 in
/-- (headend/cover.tree).leaf -/
theorem g_pleaf (s : Sc) (u : Nat) (h0 : 0 ≤ s.d) (h6 : s.d ≤ 6) (hu : u < p2 s.d.toNat) : Gives Try.prog 142 [.agg [.int .u8 s.k, .int .i64 s.d, .int .i64 (strideN s.d : Int)].toArray, .int .i64 (u : Int)].toArray (.int .i64 ((p2 s.d.toNat + u : Nat) : Int)) := by
  refine gives_of Try.func142 rfl (bs := [.agg [.int .u8 s.k, .int .i64 s.d, .int .i64 (strideN s.d : Int)].toArray, .int .i64 (u : Int), undef, undef, undef, undef, undef, undef, undef]) rfl ?_
  intro w hW
  have hp := p2_le (n := s.d.toNat) (by omega)
  refine c_seq ?_
  refine c_reg ?_
  refine l_box hW rfl rfl rfl rfl ?_
  intro g1 W hW
  refine l_val (r_assign (v := .int _ _) rfl rfl) rfl rfl ?_
  refine l_end ?_
  refine n_then ?_
  refine c_seq ?_
  refine c_reg ?_
  refine l_loadA hW 0 tyA124 rfl rfl rfl rfl rfl (by first | rfl | exact kc_len _ | exact kcf_len _ | exact boC_len _ _ | (simp; done)) ?_
  refine l_call hW (g_psize s (by omega) (by omega)) en125 rfl rfl rfl rfl ?_
  intro W hW
  refine l_val (r_move (v := .int _ _) rfl rfl) rfl rfl ?_
  refine l_val (r_addN rfl rfl rfl (by omega)) rfl rfl ?_
  refine l_val (r_assign (v := .int _ _) rfl rfl) rfl rfl ?_
  refine l_end ?_
  refine n_then ?_
  refine c_ret ?_
  refine ret_tmp (v := .int .i64 ((p2 s.d.toNat + u : Nat) : Int)) rfl ?_ ⟨rfl, hW.below⟩
  rfl

set_option maxRecDepth 10000 in
/-- (headend/cover.tree).has -/
theorem g_phas (s : Sc) (v : Int) (h0 : 0 ≤ s.d) (h6 : s.d ≤ 6) : Gives Try.prog 136 [.agg [.int .u8 s.k, .int .i64 s.d, .int .i64 (strideN s.d : Int)].toArray, .int .i64 v].toArray (.bool (nodeB s.d v)) := by
  refine gives_of Try.func136 rfl (bs := [.agg [.int .u8 s.k, .int .i64 s.d, .int .i64 (strideN s.d : Int)].toArray, .int .i64 v, undef, undef, undef, undef, undef, undef, undef, undef, undef, undef, undef, undef]) rfl ?_
  intro w hW
  have hp := p2_le (n := s.d.toNat) (by omega)
  refine c_seq ?_
  refine c_reg ?_
  refine l_box hW rfl rfl rfl rfl ?_
  intro g1 W hW
  refine l_val (r_assign (v := .bool _) rfl rfl) rfl rfl ?_
  refine l_end ?_
  refine n_then ?_
  refine c_seq ?_
  refine c_reg ?_
  refine l_val (r_move (v := .int _ _) rfl rfl) rfl rfl ?_
  refine l_val (r_geq rfl rfl rfl rfl) rfl rfl ?_
  refine l_split ?_ ?_
  · intro hc1
    replace hc1 := of_decide_eq_true hc1
    refine l_val (r_move (v := .bool _) rfl rfl) rfl rfl ?_
    refine l_valG (r_move (v := .int _ _) rfl rfl) (by kernel_rfl) rfl ?_
    refine l_loadAG hW 0 tyA124 (by kernel_rfl) rfl rfl rfl rfl (by first | rfl | exact kc_len _ | exact kcf_len _ | exact boC_len _ _ | (simp; done)) ?_
    refine l_callG hW (g_psize s (by omega) (by omega)) en125 (by kernel_rfl) rfl rfl rfl ?_
    intro W hW
    refine l_valG (r_mulN (m := 2) rfl rfl rfl (by omega)) (by kernel_rfl) rfl ?_
    refine l_valG (r_lss rfl rfl rfl rfl) (by kernel_rfl) rfl ?_
    refine l_val (r_pick (v := .bool _) rfl rfl rfl) rfl rfl ?_
    refine l_val (r_assign (v := .bool _) rfl rfl) rfl rfl ?_
    refine l_end ?_
    refine n_then ?_
    refine c_ret ?_
    refine ret_tmp (v := .bool (nodeB s.d v)) rfl ?_ ⟨rfl, hW.below⟩
    exact congrArg Value.bool (decide_eq_decide.2 (by omega))
  · intro hc1
    replace hc1 := of_decide_eq_false hc1
    refine l_val (r_move (v := .bool _) rfl rfl) rfl rfl ?_
    refine l_not (by kernel_rfl) rfl ?_
    refine l_not (by kernel_rfl) rfl ?_
    refine l_not (by kernel_rfl) rfl ?_
    refine l_not (by kernel_rfl) rfl ?_
    refine l_not (by kernel_rfl) rfl ?_
    refine l_val (r_pick (v := .bool _) rfl rfl rfl) rfl rfl ?_
    refine l_val (r_assign (v := .bool _) rfl rfl) rfl rfl ?_
    refine l_end ?_
    refine n_then ?_
    refine c_ret ?_
    refine ret_tmp (v := .bool (nodeB s.d v)) rfl ?_ ⟨rfl, hW.below⟩
    exact congrArg Value.bool (decide_eq_false (by omega)).symm

set_option maxRecDepth 10000 in
/-- (headend/cover.node).below -/
theorem g_pbelow (y v : Nat) (hy : 0 < y) (hy2 : y < 128) (hv : 0 < v) (hv2 : v < 128) : Gives Try.prog 137 [.int .i64 (y : Int), .int .i64 (v : Int)].toArray (.bool (belowN y v)) := by
  refine gives_of Try.func137 rfl (bs := [.int .i64 (y : Int), .int .i64 (v : Int), undef, undef, undef, undef, undef, undef, undef, undef, undef, undef, undef, undef, undef, undef, undef, undef, undef, undef, undef, undef, undef, undef, undef, undef, undef]) rfl ?_
  intro w hW
  have l1 := lev_le hy2
  have l2 := lev_le hv2
  refine c_seq ?_
  refine c_reg ?_
  refine l_val (r_assign (v := .bool _) rfl rfl) rfl rfl ?_
  refine l_end ?_
  refine n_then ?_
  refine c_seq ?_
  refine c_seq ?_
  refine c_reg ?_
  refine l_val (r_move (v := .int _ _) rfl rfl) rfl rfl ?_
  refine l_val (r_lssN (n := 1) rfl rfl rfl rfl) rfl rfl ?_
  refine l_split ?_ ?_
  · intro hc1
    replace hc1 := of_decide_eq_true hc1
    refine l_val (r_move (v := .bool _) rfl rfl) rfl rfl ?_
    refine l_not (by kernel_rfl) rfl ?_
    refine l_not (by kernel_rfl) rfl ?_
    refine l_val (r_pick (v := .bool _) rfl rfl rfl) rfl rfl ?_
    refine l_val (r_move (v := .bool _) rfl rfl) rfl rfl ?_
    refine l_not (by kernel_rfl) rfl ?_
    refine l_not (by kernel_rfl) rfl ?_
    refine l_not (by kernel_rfl) rfl ?_
    refine l_not (by kernel_rfl) rfl ?_
    refine l_not (by kernel_rfl) rfl ?_
    refine l_val (r_pick (v := .bool _) rfl rfl rfl) rfl rfl ?_
    refine l_end ?_
    refine n_then ?_
    refine c_true rfl ?_
    refine c_seq ?_
    refine c_reg ?_
    refine l_val (r_assign (v := .bool _) rfl rfl) rfl rfl ?_
    refine l_end ?_
    refine n_then ?_
    refine c_ret ?_
    refine r_then ?_
    refine ret_tmp (v := .bool (belowN y v)) rfl ?_ ⟨rfl, hW.below⟩
    exact congrArg Value.bool (by rw [eq_comm, ← Bool.not_eq_true, below_iff]; omega)
  · intro hc1
    replace hc1 := of_decide_eq_false hc1
    refine l_val (r_move (v := .bool _) rfl rfl) rfl rfl ?_
    refine l_valG (r_move (v := .int _ _) rfl rfl) (by kernel_rfl) rfl ?_
    refine l_valG (r_lssN (n := 1) rfl rfl rfl rfl) (by kernel_rfl) rfl ?_
    refine l_split ?_ ?_
    · intro hc2
      replace hc2 := of_decide_eq_true hc2
      refine l_val (r_pick (v := .bool _) rfl rfl rfl) rfl rfl ?_
      refine l_val (r_move (v := .bool _) rfl rfl) rfl rfl ?_
      refine l_not (by kernel_rfl) rfl ?_
      refine l_not (by kernel_rfl) rfl ?_
      refine l_not (by kernel_rfl) rfl ?_
      refine l_not (by kernel_rfl) rfl ?_
      refine l_not (by kernel_rfl) rfl ?_
      refine l_val (r_pick (v := .bool _) rfl rfl rfl) rfl rfl ?_
      refine l_end ?_
      refine n_then ?_
      refine c_true rfl ?_
      refine c_seq ?_
      refine c_reg ?_
      refine l_val (r_assign (v := .bool _) rfl rfl) rfl rfl ?_
      refine l_end ?_
      refine n_then ?_
      refine c_ret ?_
      refine r_then ?_
      refine ret_tmp (v := .bool (belowN y v)) rfl ?_ ⟨rfl, hW.below⟩
      exact congrArg Value.bool (by rw [eq_comm, ← Bool.not_eq_true, below_iff]; omega)
    · intro hc2
      replace hc2 := of_decide_eq_false hc2
      refine l_val (r_pick (v := .bool _) rfl rfl rfl) rfl rfl ?_
      refine l_val (r_move (v := .bool _) rfl rfl) rfl rfl ?_
      refine l_valG (r_move (v := .int _ _) rfl rfl) (by kernel_rfl) rfl ?_
      refine l_callG hW (g_plevel _ (by omega) (by omega)) en153 (by kernel_rfl) rfl rfl rfl ?_
      intro W hW
      refine l_valG (r_move (v := .int _ _) rfl rfl) (by kernel_rfl) rfl ?_
      refine l_callG hW (g_plevel _ (by omega) (by omega)) en153 (by kernel_rfl) rfl rfl rfl ?_
      intro W hW
      refine l_valG (r_lssN rfl rfl rfl rfl) (by kernel_rfl) rfl ?_
      refine l_split ?_ ?_
      · intro hc3
        replace hc3 := of_decide_eq_true hc3
        refine l_val (r_pick (v := .bool _) rfl rfl rfl) rfl rfl ?_
        refine l_end ?_
        refine n_then ?_
        refine c_true rfl ?_
        refine c_seq ?_
        refine c_reg ?_
        refine l_val (r_assign (v := .bool _) rfl rfl) rfl rfl ?_
        refine l_end ?_
        refine n_then ?_
        refine c_ret ?_
        refine r_then ?_
        refine ret_tmp (v := .bool (belowN y v)) rfl ?_ ⟨rfl, hW.below⟩
        exact congrArg Value.bool (by rw [eq_comm, ← Bool.not_eq_true, below_iff]; omega)
      · intro hc3
        replace hc3 := of_decide_eq_false hc3
        refine l_val (r_pick (v := .bool _) rfl rfl rfl) rfl rfl ?_
        refine l_end ?_
        refine n_then ?_
        refine c_false rfl ?_
        refine c_skip ?_
        refine n_then ?_
        refine c_seq ?_
        refine c_reg ?_
        refine l_val (r_move (v := .int _ _) rfl rfl) rfl rfl ?_
        refine l_val (r_move (v := .int _ _) rfl rfl) rfl rfl ?_
        refine l_call hW (g_plevel _ (by omega) (by omega)) en153 rfl rfl rfl rfl ?_
        intro W hW
        refine l_val (r_move (v := .int _ _) rfl rfl) rfl rfl ?_
        refine l_call hW (g_plevel _ (by omega) (by omega)) en153 rfl rfl rfl rfl ?_
        intro W hW
        refine l_val (r_subN rfl rfl rfl (by omega) (by omega)) rfl rfl ?_
        refine l_val (r_shr_i64N (n := y) (s := lev y - lev v) rfl rfl rfl (by omega)) rfl rfl ?_
        refine l_val (r_move (v := .int _ _) rfl rfl) rfl rfl ?_
        refine l_val (r_eqlN rfl rfl rfl rfl) rfl rfl ?_
        refine l_val (r_assign (v := .bool _) rfl rfl) rfl rfl ?_
        refine l_end ?_
        refine n_then ?_
        refine c_ret ?_
        refine ret_tmp (v := .bool (belowN y v)) rfl ?_ ⟨rfl, hW.below⟩
        exact congrArg Value.bool (by rw [Bool.eq_iff_iff]; simp only [decide_eq_true_eq, belowN, Bool.and_eq_true, Nat.ble_eq, Nat.beq_eq, sh_eq]; omega)

end Go.Proofs.Ytoegpalacppllaa

/- Members, by the program. -/
namespace Go.Proofs.Ytoegpalacppllaa
open Go.RowKit Pl
open Tr Hn
set_option maxRecDepth 10000 in
/-- (headend/cover.tree).special -/
theorem g_pspecial (s : Sc) (v : Nat) (hv : 0 < v) (hv2 : v < 128) : Gives Try.prog 138 [.agg [.int .u8 s.k, .int .i64 s.d, .int .i64 (strideN s.d : Int)].toArray, .int .i64 (v : Int)].toArray (.bool (specN s.d v)) := by
  refine gives_of Try.func138 rfl (bs := [.agg [.int .u8 s.k, .int .i64 s.d, .int .i64 (strideN s.d : Int)].toArray, .int .i64 (v : Int), undef, undef, undef, undef, undef, undef, undef, undef, undef]) rfl ?_
  intro w hW
  have hsp := stride_pos s.d
  refine c_seq ?_
  refine c_reg ?_
  refine l_box hW rfl rfl rfl rfl ?_
  intro g1 W hW
  refine l_val (r_assign (v := .bool _) rfl rfl) rfl rfl ?_
  refine l_end ?_
  refine n_then ?_
  refine c_seq ?_
  refine c_regY hW [] [.q, .q, .q, .q, .q, .q, .q] [0, 1, 0, 4, 15, 31, 63] (by kernel_rfl) (by kernel_rfl) ?_
  refine y_val (r_move (v := .int _ _) rfl rfl) rfl rfl ?_
  refine y_call (g_plevel _ (by omega) (by omega)) en153 rfl rfl rfl rfl ?_
  refine y_val (r_fieldAddr 2 Try.underlying124 rfl tyC3.size rfl rfl rfl) rfl rfl ?_
  refine y_loadC 0 tyC3 rfl rfl rfl rfl rfl rfl (by decide) ?_
  refine y_val (r_remN rfl rfl rfl (by omega)) rfl rfl ?_
  refine y_val (r_eqlN (n := 0) rfl rfl rfl rfl) rfl rfl ?_
  refine y_val (r_assign (v := .bool _) rfl rfl) rfl rfl ?_
  refine y_end ?_
  intro W hW
  refine n_then ?_
  refine c_ret ?_
  refine ret_tmp (v := .bool (specN s.d v)) rfl ?_ ⟨rfl, hW.below⟩
  exact congrArg Value.bool (by rw [Bool.eq_iff_iff]; simp only [decide_eq_true_eq, specN, Nat.beq_eq] <;> omega)

set_option maxRecDepth 10000 in
/-- (headend/cover.node).toward -/
theorem g_ptoward (v y : Nat) (hv : 0 < v) (hv2 : v < 128) (hy : 0 < y) (hy2 : y < 128) (h : lev v < lev y) : Gives Try.prog 156 [.int .i64 (v : Int), .int .i64 (y : Int)].toArray (.int .i64 ((sh y (lev y - lev v - 1) : Nat) : Int)) := by
  refine gives_of Try.func156 rfl (bs := [.int .i64 (v : Int), .int .i64 (y : Int), undef, undef, undef, undef, undef, undef, undef, undef, undef, undef, undef]) rfl ?_
  intro w hW
  have l1 := lev_le hy2
  refine c_seq ?_
  refine c_reg ?_
  refine l_val (r_assign (v := .int _ _) rfl rfl) rfl rfl ?_
  refine l_end ?_
  refine n_then ?_
  refine c_seq ?_
  refine c_reg ?_
  refine l_val (r_move (v := .int _ _) rfl rfl) rfl rfl ?_
  refine l_val (r_move (v := .int _ _) rfl rfl) rfl rfl ?_
  refine l_call hW (g_plevel _ (by omega) (by omega)) en153 rfl rfl rfl rfl ?_
  intro W hW
  refine l_val (r_move (v := .int _ _) rfl rfl) rfl rfl ?_
  refine l_call hW (g_plevel _ (by omega) (by omega)) en153 rfl rfl rfl rfl ?_
  intro W hW
  refine l_val (r_subN rfl rfl rfl (by omega) (by omega)) rfl rfl ?_
  refine l_val (r_subN (n := 1) rfl rfl rfl (by omega) (by omega)) rfl rfl ?_
  refine l_val (r_shr_i64N (n := y) (s := lev y - lev v - 1) rfl rfl rfl (by omega)) rfl rfl ?_
  refine l_val (r_assign (v := .int _ _) rfl rfl) rfl rfl ?_
  refine l_end ?_
  refine n_then ?_
  refine c_ret ?_
  refine ret_tmp (v := .int .i64 ((sh y (lev y - lev v - 1) : Nat) : Int)) rfl ?_ ⟨rfl, hW.below⟩
  exact congrArg (fun n : Nat => Value.int .i64 (n : Int)) (sh_eq _ _).symm

set_option maxRecDepth 10000 in
/-- (headend/cover.node).below -/
theorem g_pbelow0 (y : Nat) (hy : 0 < y) : Gives Try.prog 137 [.int .i64 (y : Int), .int .i64 0].toArray (.bool false) := by
  refine gives_of Try.func137 rfl (bs := [.int .i64 (y : Int), .int .i64 0, undef, undef, undef, undef, undef, undef, undef, undef, undef, undef, undef, undef, undef, undef, undef, undef, undef, undef, undef, undef, undef, undef, undef, undef, undef]) rfl ?_
  intro w hW
  refine c_seq ?_
  refine c_reg ?_
  refine l_val (r_assign (v := .bool _) rfl rfl) rfl rfl ?_
  refine l_end ?_
  refine n_then ?_
  refine c_seq ?_
  refine c_seq ?_
  refine c_reg ?_
  refine l_val (r_move (v := .int _ _) rfl rfl) rfl rfl ?_
  refine l_val (r_lssN (n := 1) rfl rfl rfl rfl) rfl rfl ?_
  refine l_split ?_ ?_
  · intro hc1
    replace hc1 := of_decide_eq_true hc1
    omega
  · intro hc1
    replace hc1 := of_decide_eq_false hc1
    refine l_val (r_move (v := .bool _) rfl rfl) rfl rfl ?_
    refine l_valG (r_move (v := .int _ _) rfl rfl) (by kernel_rfl) rfl ?_
    refine l_valG (r_lss (b := true) rfl rfl rfl (by decide)) (by kernel_rfl) rfl ?_
    refine l_val (r_pick (v := .bool _) rfl rfl rfl) rfl rfl ?_
    refine l_val (r_move (v := .bool _) rfl rfl) rfl rfl ?_
    refine l_not (by kernel_rfl) rfl ?_
    refine l_not (by kernel_rfl) rfl ?_
    refine l_not (by kernel_rfl) rfl ?_
    refine l_not (by kernel_rfl) rfl ?_
    refine l_not (by kernel_rfl) rfl ?_
    refine l_val (r_pick (v := .bool _) rfl rfl rfl) rfl rfl ?_
    refine l_end ?_
    refine n_then ?_
    refine c_true rfl ?_
    refine c_seq ?_
    refine c_reg ?_
    refine l_val (r_assign (v := .bool _) rfl rfl) rfl rfl ?_
    refine l_end ?_
    refine n_then ?_
    refine c_ret ?_
    refine r_then ?_
    refine ret_tmp (v := .bool false) rfl ?_ ⟨rfl, hW.below⟩
    rfl

/-- below, of whole numbers -/
theorem g_pbelowZ (y : Nat) (v : Int) (hy : 0 < y) (hy2 : y < 128) (hv : 0 ≤ v) (hv2 : v < 128) : Gives Try.prog 137 [.int .i64 (y : Int), .int .i64 v].toArray (.bool (!decide (v = 0) && belowN y v.toNat)) := by
  by_cases h : v = 0
  · subst h
    exact g_pbelow0 y hy
  · obtain ⟨v', rfl⟩ : ∃ n : Nat, v = n := ⟨v.toNat, by omega⟩
    rw [decide_eq_false h]
    exact g_pbelow y v' hy hy2 (by omega) (by omega)
set_option maxRecDepth 10000 in
/-- (headend/cover.tree).member -/
theorem g_pmember (s : Sc) (v x : Int) (u : Nat) (h0 : 0 ≤ s.d) (h6 : s.d ≤ 6) (hv : 1 ≤ v) (hv2 : v < 128) (hx0 : 0 ≤ x) (hx2 : x < 128) (hu : u < p2 s.d.toNat) : Gives Try.prog 126 [.agg [.int .u8 s.k, .int .i64 s.d, .int .i64 (strideN s.d : Int)].toArray, .agg [.int .i64 v, .int .i64 x].toArray, .int .i64 (u : Int)].toArray (.bool (memB s v x u)) := by
  refine gives_of Try.func126 rfl (bs := [.agg [.int .u8 s.k, .int .i64 s.d, .int .i64 (strideN s.d : Int)].toArray, .agg [.int .i64 v, .int .i64 x].toArray, .int .i64 (u : Int), undef, undef, undef, undef, undef, undef, undef, undef, undef, undef, undef, undef, undef, undef, undef, undef, undef, undef, undef]) rfl ?_
  intro w hW
  have hp := p2_le (n := s.d.toNat) (by omega)
  have hp0 := p2_pos s.d.toNat
  refine c_seq ?_
  refine c_reg ?_
  refine l_box hW rfl rfl rfl rfl ?_
  intro g1 W hW
  refine l_box hW rfl rfl rfl rfl ?_
  intro g2 W hW
  refine l_val (r_assign (v := .bool _) rfl rfl) rfl rfl ?_
  refine l_end ?_
  refine n_then ?_
  refine c_seq ?_
  refine c_reg ?_
  refine l_loadA hW 1 tyA124 rfl rfl rfl rfl rfl (by first | rfl | exact kc_len _ | exact kcf_len _ | exact boC_len _ _ | (simp; done)) ?_
  refine l_val (r_move (v := .int _ _) rfl rfl) rfl rfl ?_
  refine l_call hW (g_pleaf s u (by omega) (by omega) (by omega)) en142 rfl rfl rfl rfl ?_
  intro W hW
  refine l_val (r_assign (v := .int _ _) rfl rfl) rfl rfl ?_
  refine l_end ?_
  refine n_then ?_
  refine c_seq ?_
  refine c_reg ?_
  refine l_val (r_move (v := .int _ _) rfl rfl) rfl rfl ?_
  refine l_val (r_fieldAddr 0 Try.underlying112 rfl tyC3.size rfl rfl rfl) rfl rfl ?_
  refine l_loadC hW 0 tyC3 rfl rfl rfl rfl rfl rfl ?_
  refine l_call hW (g_pbelowZ (p2 s.d.toNat + u) v (by omega) (by omega) (by omega) (by omega)) en137 rfl rfl rfl rfl ?_
  intro W hW
  refine l_split ?_ ?_
  · intro hc1
    refine l_val (r_move (v := .bool _) rfl rfl) rfl rfl ?_
    refine l_valG (r_move (v := .int _ _) rfl rfl) (by kernel_rfl) rfl ?_
    refine l_valG (r_fieldAddr 1 Try.underlying112 rfl tyC3.size rfl rfl rfl) (by kernel_rfl) rfl ?_
    refine l_loadCG hW 0 tyC3 (by kernel_rfl) rfl rfl rfl rfl rfl ?_
    refine l_callG hW (g_pbelowZ (p2 s.d.toNat + u) x (by omega) (by omega) (by omega) (by omega)) en137 (by kernel_rfl) rfl rfl rfl ?_
    intro W hW
    refine l_valG (r_not rfl rfl) (by kernel_rfl) rfl ?_
    refine l_val (r_pick (v := .bool _) rfl rfl rfl) rfl rfl ?_
    refine l_val (r_assign (v := .bool _) rfl rfl) rfl rfl ?_
    refine l_end ?_
    refine n_then ?_
    refine c_ret ?_
    refine ret_tmp (v := .bool (memB s v x u)) rfl ?_ ⟨rfl, hW.below⟩
    rw [decide_eq_false (show ¬ v = 0 by omega)] at hc1
    exact congrArg Value.bool (by rw [memB, show belowN (p2 s.d.toNat + u) v.toNat = true from hc1]; cases decide (x = 0) <;> simp)
  · intro hc1
    refine l_val (r_move (v := .bool _) rfl rfl) rfl rfl ?_
    refine l_not (by kernel_rfl) rfl ?_
    refine l_not (by kernel_rfl) rfl ?_
    refine l_not (by kernel_rfl) rfl ?_
    refine l_not (by kernel_rfl) rfl ?_
    refine l_not (by kernel_rfl) rfl ?_
    refine l_val (r_pick (v := .bool _) rfl rfl rfl) rfl rfl ?_
    refine l_val (r_assign (v := .bool _) rfl rfl) rfl rfl ?_
    refine l_end ?_
    refine n_then ?_
    refine c_ret ?_
    refine ret_tmp (v := .bool (memB s v x u)) rfl ?_ ⟨rfl, hW.below⟩
    rw [decide_eq_false (show ¬ v = 0 by omega)] at hc1
    exact congrArg Value.bool (by rw [memB, show belowN (p2 s.d.toNat + u) v.toNat = false from hc1]; rfl)

set_option maxRecDepth 10000 in
/-- (headend/cover.tree).members -/
theorem g_pmembers (s : Sc) (v x : Int) (h0 : 0 ≤ s.d) (h6 : s.d ≤ 6) (hv : 1 ≤ v) (hv2 : v < 128) (hx0 : 0 ≤ x) (hx2 : x < 128) : GivesX Try.prog 99 [.agg [.int .u8 s.k, .int .i64 s.d, .int .i64 (strideN s.d : Int)].toArray, .agg [.int .i64 v, .int .i64 x].toArray].toArray (fun _ => True) (NewSl 3 1 (membersN s v x (p2 s.d.toNat)).length (il (membersN s v x (p2 s.d.toNat)))) := by
  refine givesX_of Try.func99 rfl (bs := [.agg [.int .u8 s.k, .int .i64 s.d, .int .i64 (strideN s.d : Int)].toArray, .agg [.int .i64 v, .int .i64 x].toArray, undef, undef, undef, undef, undef, undef, undef, undef, undef, undef, undef, undef, undef, undef, undef, undef, undef, undef, undef, undef]) rfl ?_
  intro w hP hW
  have hp := p2_le (n := s.d.toNat) (by omega)
  refine c_seq ?_
  refine c_reg ?_
  refine l_box hW rfl rfl rfl rfl ?_
  intro g1 W hW
  refine l_box hW rfl rfl rfl rfl ?_
  intro g2 W hW
  refine l_val (r_assign (v := .slice _ _ _) rfl rfl) rfl rfl ?_
  refine l_end ?_
  refine n_then ?_
  refine c_seq ?_
  refine c_reg ?_
  refine l_val (r_assign (v := .slice _ _ _) rfl rfl) rfl rfl ?_
  refine l_end ?_
  refine n_then ?_
  refine c_seq ?_
  refine c_seq ?_
  refine c_reg ?_
  refine l_loadA hW 1 tyA124 rfl rfl rfl rfl rfl (by first | rfl | exact kc_len _ | exact kcf_len _ | exact boC_len _ _ | (simp; done)) ?_
  refine l_call hW (g_psize s (by omega) (by omega)) en125 rfl rfl rfl rfl ?_
  intro W hW
  refine l_val (r_move (v := .int _ _) rfl rfl) rfl rfl ?_
  refine l_end ?_
  refine n_then ?_
  refine c_block ?_
  refine c_loop (fun (z : Nat × Option Addr × Nat × List Blk × Nat) (j : Nat → Value) => [.agg [.int .u8 s.k, .int .i64 s.d, .int .i64 (strideN s.d : Int)].toArray, .agg [.int .i64 v, .int .i64 x].toArray, .pointer (some ⟨g1, 0, none⟩), .pointer (some ⟨g2, 0, none⟩), j 4, .slice z.2.1 z.2.2.2.2 z.2.2.1, j 6, .agg ([.int .u8 s.k, .int .i64 s.d, .int .i64 (strideN s.d : Int)]).toArray, .int .i64 ((p2 s.d.toNat : Nat) : Int), .int .i64 (z.1 : Int), j 10, j 11, j 12, j 13, j 14, j 15, j 16, j 17, j 18, j 19, j 20, j 21]) (fun (z : Nat × Option Addr × Nat × List Blk × Nat) => [⟨g2, [.int .i64 v, .int .i64 x], 112⟩, ⟨g1, [.int .u8 s.k, .int .i64 s.d, .int .i64 (strideN s.d : Int)], 124⟩] ++ z.2.2.2.1) (fun (z : Nat × Option Addr × Nat × List Blk × Nat) => z.1 ≤ p2 s.d.toNat ∧ z.2.2.2.2 = (membersN s v x z.1).length ∧ OwnSl 3 1 z.2.1 z.2.2.2.2 z.2.2.1 (il (membersN s v x z.1)) z.2.2.2.1) (fun (z : Nat × Option Addr × Nat × List Blk × Nat) => p2 s.d.toNat - z.1) (0, none, 0, [], 0) (by kernel_rfl) (by simpa using hW) ⟨Nat.zero_le _, rfl, OwnSl.nil 3 1⟩ ?_
  intro z j W hx hW
  obtain ⟨hz, hzn, hO⟩ := hx
  refine c_seq ?_
  refine c_reg ?_
  refine l_val (r_lssN rfl rfl rfl rfl) rfl rfl ?_
  refine l_split ?_ ?_
  · intro hc1
    replace hc1 := of_decide_eq_true hc1
    refine l_end ?_
    refine n_then ?_
    refine c_seq ?_
    refine c_true rfl ?_
    refine c_skip ?_
    refine n_then ?_
    refine c_seq ?_
    refine c_block ?_
    refine c_seq ?_
    refine c_reg ?_
    refine l_val (r_move (v := .int _ _) rfl rfl) rfl rfl ?_
    refine l_val (r_assign (v := .int _ _) rfl rfl) rfl rfl ?_
    refine l_end ?_
    refine n_then ?_
    refine c_seq ?_
    refine c_reg ?_
    refine l_loadA hW 1 tyA124 rfl rfl rfl rfl rfl (by first | rfl | exact kc_len _ | exact kcf_len _ | exact boC_len _ _ | (simp; done)) ?_
    refine l_loadA hW 0 tyA112 rfl rfl rfl rfl rfl (by first | rfl | exact kc_len _ | exact kcf_len _ | exact boC_len _ _ | (simp; done)) ?_
    refine l_val (r_move (v := .int _ _) rfl rfl) rfl rfl ?_
    refine l_call hW (g_pmember s v x z.1 h0 h6 hv hv2 hx0 hx2 (by omega)) en126 rfl rfl rfl rfl ?_
    intro W hW
    refine l_split ?_ ?_
    · intro hc2
      have hmx := mem_yes hc2
      have hyes := hc2
      have hml := mem_len s v x (z.1 + 1)
      refine l_end ?_
      refine n_then ?_
      refine c_true rfl ?_
      refine c_reg ?_
      refine l_val (r_move (v := .slice _ _ _) rfl rfl) rfl rfl ?_
      refine l_val (r_move (v := .int _ _) rfl rfl) rfl rfl ?_
      refine l_buildSliceF hW (bsl35_1_0 _) rfl rfl rfl rfl ?_
      intro gb W hW
      refine l_appendB tyE35 (L := [_, _, _]) hO hW 0 (N := (membersN s v x (z.1 + 1)).length) (by rw [mem_yes hyes, List.length_append]; simp only [List.length_cons, List.length_nil]; omega) rfl rfl rfl rfl rfl rfl rfl (by simp [Value.oneCell']) (by unfold maxLen; omega) (by omega) ?_
      intro a1 c1 Bs1 W hO1 hW
      replace hO1 := hO1.castx rfl (xs' := il (membersN s v x (z.1 + 1))) (by rw [mem_yes hyes, il_append]; rfl)
      refine l_val (r_assign (v := .slice _ _ _) rfl rfl) rfl rfl ?_
      refine l_end ?_
      refine n_block ?_
      refine n_then ?_
      refine c_reg ?_
      refine l_val (r_addN (n := 1) rfl rfl rfl (by omega)) rfl rfl ?_
      refine l_val (r_move (v := .int _ _) rfl rfl) rfl rfl ?_
      refine l_end ?_
      refine n_then ?_
      exact loop_next (z.1 + 1, a1, c1, Bs1, (membersN s v x (z.1 + 1)).length) (by kernel_rfl) (hW.drop 1) ⟨by simp only; omega, rfl, hO1⟩ (by simp only; omega)
    · intro hc2
      have hmx := mem_no hc2
      refine l_end ?_
      refine n_then ?_
      refine c_false rfl ?_
      refine c_skip ?_
      refine n_block ?_
      refine n_then ?_
      refine c_reg ?_
      refine l_val (r_addN (n := 1) rfl rfl rfl (by omega)) rfl rfl ?_
      refine l_val (r_move (v := .int _ _) rfl rfl) rfl rfl ?_
      refine l_end ?_
      refine n_then ?_
      exact loop_next (z.1 + 1, z.2.1, z.2.2.1, z.2.2.2.1, z.2.2.2.2) (by kernel_rfl) hW ⟨by simp only; omega, by simp only [hmx]; exact hzn, by simp only [hmx]; exact hO⟩ (by simp only; omega)
  · intro hc1
    replace hc1 := of_decide_eq_false hc1
    refine l_end ?_
    refine n_then ?_
    refine c_seq ?_
    refine c_false rfl ?_
    refine c_exit ?_
    refine x_then ?_
    refine x_then ?_
    refine x_hit ?_
    refine n_then ?_
    refine c_seq ?_
    refine c_reg ?_
    refine l_val (r_move (v := .slice _ _ _) rfl rfl) rfl rfl ?_
    refine l_val (r_assign (v := .slice _ _ _) rfl rfl) rfl rfl ?_
    refine l_end ?_
    refine n_then ?_
    refine c_ret ?_
    refine ret_tmp (v := .slice _ _ _) rfl rfl ?_
    have e : z.1 = p2 s.d.toNat := by omega
    rw [← e, ← hzn]
    exact ⟨_, _, rfl, ⟨_, _, rfl, hO⟩, hW.sub (List.sublist_append_right _ _)⟩

end Go.Proofs.Ytoegpalacppllaa

/- A range over a function whose rounds may leave early (by return); iterators that stop then. No function of the program is in sight here. -/
namespace Go.Proofs.Ytoegpalacppllaa
open Go.RowKit

section
variable {P : Program} {ops : Array Oper} {Q : Exit → Act → World → Prop} {bs : List Value} {us : List (Nat × Value)} {ds : List Deferred} {b : Base} {W : World} {rest : List Oper} {o : Oper} {L : List Blk} {d : Nat} {v : Value} {m : Nat}

/-- what an iterator does that is told to stop at round k (k = n: never) -/
def IterS (P : Program) (w : World) (gf : Nat) (lb : Array Value) (n : Nat) (enc : Nat → Array Value) : Prop :=
  ∀ (r : World) (l k : Nat) (J : Nat → List Blk → Prop) (Z : World → Prop) (L0 : List Blk) (W : World), k ≤ n →
    (∀ (i : Nat) (Lc : List Blk) (W : World), i < k → J i Lc → Cl ⟨w, r⟩ Lc W → YieldAt Fence.wide 0 P l (enc i) W fun e W' => e = .returned (.bool true) ∧ ∃ Lc', J (i + 1) Lc' ∧ Cl ⟨w, r⟩ Lc' W') →
    (∀ (Lc : List Blk) (W : World), k < n → J k Lc → Cl ⟨w, r⟩ Lc W → YieldAt Fence.wide 0 P l (enc k) W fun e W' => e = .returned (.bool false) ∧ Z W') →
    J 0 L0 → Cl ⟨w, r⟩ L0 W → CallsIn Fence.wide 0 P gf (#[.func (.yield l) #[] #[]] ++ lb) W fun e W' => (∃ v, e = .returned v) ∧ ((k = n ∧ ∃ Lc', J n Lc' ∧ Cl ⟨w, r⟩ Lc' W') ∨ (k < n ∧ Z W'))

theorem l_yieldS {l : Nat} {t : Bool} {x : Operand} {xs : Array Operand} {ts : Array TypeId} {args : List Value} {R : World → Prop} (hY : YieldAt Fence.wide 0 P l args.toArray W fun e W' => e = .returned (.bool t) ∧ R W')
    (hg : o.guard = none) (ho : o.op = .call { callee := .value x, args := xs, argTypes := ts }) (hx : ev bs us x = .func (.yield l) #[] #[]) (ha : xs.toList.map (ev bs us) = args) (hd : o.dst = some d)
    (h : ∀ W', R W' → LW (some none) 0 P ops Q rest (fr bs ((d, .bool t) :: us) ds) W') : LW (some none) 0 P ops Q (o :: rest) (fr bs us ds) W := by
  refine ⟨wpListIn_step fun K hK => ?_⟩
  rw [if_pos (wanted_none hg)]
  refine ⟨about_ok none, ?_⟩
  obtain ⟨fn, tmps, assign, body, hr, hR⟩ := hY
  have hrun : (execOp (fr bs us ds).eval o).run P W = .ok (.round l fn tmps assign body) W := by rw [eval_ev, run_callY ho hx ha]; exact hr
  have e : o.semAt (RF none).round (fr bs us ds).eval = execOp (fr bs us ds).eval o := Oper.semAt_eq _ _ _ (not_defer hrun (fun d h => by cases h))
  rw [e, hrun, Oper.uponIn_round]
  refine ⟨RF_depth none, RoundIn.mono hR ?_⟩
  rintro e w ⟨rfl, hw⟩
  refine hK _ _ ?_
  rw [hd, put_st]
  exact (h w hw).h

theorem c_rangeS {g : Operand} {ps : Array Tmp} {assign body : Code} {gf : FuncId} {lb : Array Value} {n k : Nat} {enc : Nat → Array Value} (hI : IterS P b.w gf lb n enc) (hkn : k ≤ n) (en : Enters P gf) (hg : ev bs us g = .func (.func gf) #[] lb) (hps : ∀ i, (enc i).size = ps.size)
    (J : Nat → List Blk → Prop) (Jx : List Blk → Prop) (h0 : J 0 L) (hW : Cl b L W) (A : Nat → Act)
    (E : Nat → List Value) (hE : ∀ i, ({ tmps := (ps.zip (enc i)).foldl (fun t (p, v) => t.setIfInBounds p v) (fr bs us ds).tmps, defers := [] } : Act) = fr (E i) [] [])
    (hassign : ∀ (l i : Nat) (W : World), CW (some (some l)) 0 P assign (Exit.then (fun a W' => a = A i ∧ W' = W) (fun _ _ _ => False)) (fr (E i) [] []) W)
    (hbody : ∀ (l : Nat) (r : World) (i : Nat) (Lc : List Blk) (W : World), i < k → J i Lc → Cl ⟨b.w, r⟩ Lc W → CW (some (some l)) 0 P body (fun e _ W' => e = .normal ∧ ∃ Lc', J (i + 1) Lc' ∧ Cl ⟨b.w, r⟩ Lc' W') (A i) W)
    (hstop : ∀ (l : Nat) (r : World) (Lc : List Blk) (W : World), k < n → J k Lc → Cl ⟨b.w, r⟩ Lc W → CW (some (some l)) 0 P body (fun e _ W' => e = .ret ∧ ∃ Lc', Jx Lc' ∧ Cl ⟨b.w, r⟩ Lc' W') (A k) W)
    (hdone : ∀ (D : Nat) (r : World) (Lc : List Blk) (W' : World), k = n → b.w.heap.size ≤ D → J n Lc → Cl ⟨b.w, r⟩ Lc W' → r.heap[D]? = some (.deferred (some [])) → Q .normal (fr bs us ({ target := .collected D, args := #[] } :: ds)) W')
    (hleft : ∀ (D : Nat) (r : World) (Lc : List Blk) (W' : World), k < n → b.w.heap.size ≤ D → Jx Lc → Cl ⟨b.w, r⟩ Lc W' → r.heap[D]? = some (.deferred (some [])) → Q .ret (fr bs us ({ target := .collected D, args := #[] } :: ds)) W') :
    CW (some none) 0 P (Code.rangeFunc g ps assign body) Q (fr bs us ds) W := by
  refine wpIn_rangeFunc ?_
  intro fn hfn
  obtain ⟨rec, hrec⟩ : ∃ rec : LoopState → Option Code → Loop, rec = fun st pe => { state := st, pending := pe, fn, tmps := (fr bs us ds).tmps, params := ps, assign, body, defers := W.heap.size } := ⟨_, rfl⟩
  obtain ⟨W1, hW1⟩ : ∃ W1, (W.alloc (.deferred (some []))).alloc (.loop (rec .ready none)) = W1 := ⟨_, rfl⟩
  have hL1 : W1.heap[W.heap.size + 1]? = some (.loop (rec .ready none)) := by
    rw [← hW1]; have := World.alloc_heap_new (W.alloc (.deferred (some []))) (.loop (rec .ready none)); rwa [World.size_alloc] at this
  have hK1 : W1.heap[W.heap.size]? = some (.deferred (some [])) := by
    rw [← hW1]; exact (Below.heap_alloc _ _ _ (by simp)).trans (World.alloc_heap_new W _)
  have hb1 : Below W.heap.size W W1 := by
    rw [← hW1]; exact ((Below.refl _ W).alloc (Nat.le_refl _) _).alloc (by simp) _
  have hC1 := hW.rebase hb1
  have hsz := hW.below.size
  refine ⟨W.heap.size + 1, [{ target := .collected W.heap.size, args := #[] }], W1, { target := .fn (.func gf) lb, args := #[.func (.yield (W.heap.size + 1)) #[] #[]] }, W1, gf,
    #[.func (.yield (W.heap.size + 1)) #[] #[]] ++ lb, W1, ?_, ?_, fun _ _ => trivial, ?_, fun h => RF_depth none h, ?_⟩
  · rw [← hW1, hrec]; exact run_enterLoop_outer _ _ _ _ _
  · rw [eval_ev]; simp only [resolve, hg]
    simp [go_sem]
    rfl
  · simp [invoke, go_sem, en _ W1]
  · refine (hI W1 (W.heap.size + 1) k J (fun W' => ∃ Lc', Jx Lc' ∧ Cl ⟨b.w, W'⟩ Lc' W' ∧ (∃ rc, W'.heap[W.heap.size + 1]? = some (.loop rc) ∧ rc.state ≠ .busy ∧ rc.pending = some .ret) ∧ W'.heap[W.heap.size]? = some (.deferred (some []))) L W1 hkn ?_ ?_ h0 hC1).mono ?_
    · intro i Lc W2 hi hj hcl
      have hl := hcl.oth _ _ hL1 rfl
      have hy := run_yield (P := P) (args := enc i) hl (by rw [hrec]; exact hps i)
      rw [hrec] at hy
      refine ⟨fn, _, assign, body, hy, roundIn_of_wpIn hfn ((hE i) ▸ wpIn_mono (hassign (W.heap.size + 1) i W2) ?_)⟩
      intro e a W3 he
      cases e with
      | normal =>
        obtain ⟨rfl, rfl⟩ := he
        refine ⟨_, run_beginRound hl (by rw [hrec]), ?_⟩
        have hlt : W.heap.size + 1 < W3.heap.size := (Array.getElem?_eq_some_iff.1 hl).1
        have hl2 : (W3.putObj (W.heap.size + 1) (.loop { rec .ready none with state := .busy })).heap[W.heap.size + 1]? = some (.loop { rec .ready none with state := .busy }) := World.putObj_heap_same hlt
        refine wpIn_mono (hbody (W.heap.size + 1) _ i Lc _ hi hj (hcl.put _ hl rfl (by show b.w.heap.size ≤ _; omega))) ?_
        rintro e a W4 ⟨rfl, Lc', hj', h4⟩
        have hl4 := h4.oth _ _ hl2 rfl
        refine ⟨_, _, run_endRound none hl4, rfl, Lc', hj', ?_⟩
        have h5 := h4.put (.loop (rec .ready none)) hl4 rfl (by show b.w.heap.size ≤ _; omega)
        have hpo : (W4.putObj (W.heap.size + 1) (.loop { ({ rec .ready none with state := .busy } : Loop) with state := if (none : Option Code).isNone then .ready else .done, pending := none })) = W4.putObj (W.heap.size + 1) (.loop (rec .ready none)) := by rw [hrec]; rfl
        rw [hpo]
        refine ⟨h5.below, h5.holds, h5.own, h5.apart, fun k o hk ho => ?_⟩
        by_cases hkl : k = W.heap.size + 1
        · subst hkl
          have hk' : W1.heap[W.heap.size + 1]? = some o := hk
          rw [hL1] at hk'
          rw [← hk']
          exact World.putObj_heap_same (Array.getElem?_eq_some_iff.1 hl4).1
        · refine (World.putObj_heap_other hkl).trans (h4.oth k o ?_ ho)
          exact (World.putObj_heap_other hkl).trans (hcl.oth k o hk ho)
      | _ => exact he.elim
    · intro Lc W2 hi hj hcl
      have hl := hcl.oth _ _ hL1 rfl
      have hy := run_yield (P := P) (args := enc k) hl (by rw [hrec]; exact hps k)
      rw [hrec] at hy
      refine ⟨fn, _, assign, body, hy, roundIn_of_wpIn hfn ((hE k) ▸ wpIn_mono (hassign (W.heap.size + 1) k W2) ?_)⟩
      intro e a W3 he
      cases e with
      | normal =>
        obtain ⟨rfl, rfl⟩ := he
        refine ⟨_, run_beginRound hl (by rw [hrec]), ?_⟩
        have hlt : W.heap.size + 1 < W3.heap.size := (Array.getElem?_eq_some_iff.1 hl).1
        have hk3 := hcl.oth _ _ hK1 rfl
        have hl2 : (W3.putObj (W.heap.size + 1) (.loop { rec .ready none with state := .busy })).heap[W.heap.size + 1]? = some (.loop { rec .ready none with state := .busy }) := World.putObj_heap_same hlt
        have hk2 : (W3.putObj (W.heap.size + 1) (.loop { rec .ready none with state := .busy })).heap[W.heap.size]? = some (.deferred (some [])) := (World.putObj_heap_other (by omega)).trans hk3
        refine wpIn_mono (hstop (W.heap.size + 1) _ Lc _ hi hj (hcl.put _ hl rfl (by show b.w.heap.size ≤ _; omega))) ?_
        rintro e a W4 ⟨rfl, Lc', hj', h4⟩
        have hl4 := h4.oth _ _ hl2 rfl
        have hk4 := h4.oth _ _ hk2 rfl
        have hlt4 : W.heap.size + 1 < W4.heap.size := (Array.getElem?_eq_some_iff.1 hl4).1
        refine ⟨_, _, run_endRound (some .ret) hl4, rfl, Lc', hj', h4.put _ hl4 rfl (by show b.w.heap.size ≤ _; omega), ⟨_, World.putObj_heap_same hlt4, by simp, rfl⟩, (World.putObj_heap_other (by omega)).trans hk4⟩
      | _ => exact he.elim
    · rintro e W3 ⟨⟨v, rfl⟩, ⟨hk', Lc', hj', h3⟩ | ⟨hk', Lc', hj', h3, ⟨rc, hl, hbz, hpe⟩, hk⟩⟩
      · have hl := h3.oth _ _ hL1 rfl
        have hk := h3.oth _ _ hK1 rfl
        refine ⟨_, _, run_endLoop hl (by rw [hrec]; simp), ?_⟩
        have hpe : (rec .ready none).pending = none := by rw [hrec]
        rw [hpe]
        exact hdone W.heap.size _ Lc' _ hk' hsz hj' (h3.put _ hl rfl (by show b.w.heap.size ≤ _; omega)) ((World.putObj_heap_other (by omega)).trans hk)
      · refine ⟨_, _, run_endLoop hl hbz, ?_⟩
        rw [hpe]
        exact (show CW (some none) 0 P Code.ret Q (fr bs us ({ target := .collected W.heap.size, args := #[] } :: ds)) _ from c_ret (hleft W.heap.size _ Lc' _ hk' hsz hj' (h3.put _ hl rfl (by show b.w.heap.size ≤ _; omega)) ((World.putObj_heap_other (by omega)).trans hk)))

variable {fn : Func}
theorem iterS_of {w : World} {gf : FuncId} {c : Code} {lb : List Value} {n : Nat} {enc : Nat → Array Value} {F : Nat → List Value} (hf : P.funcs[gf]? = some fn) (hb : fn.body = some c) (hl : ∀ l, [Value.func (.yield l) #[] #[]] ++ lb ++ List.replicate (fn.ntmps - (lb.length + 1)) undef = F l)
    (h : ∀ (r : World) (l k : Nat) (J : Nat → List Blk → Prop) (Z : World → Prop) (L0 : List Blk) (W : World), k ≤ n →
      (∀ (i : Nat) (Lc : List Blk) (W : World), i < k → J i Lc → Cl ⟨w, r⟩ Lc W → YieldAt Fence.wide 0 P l (enc i) W fun e W' => e = .returned (.bool true) ∧ ∃ Lc', J (i + 1) Lc' ∧ Cl ⟨w, r⟩ Lc' W') →
      (∀ (Lc : List Blk) (W : World), k < n → J k Lc → Cl ⟨w, r⟩ Lc W → YieldAt Fence.wide 0 P l (enc k) W fun e W' => e = .returned (.bool false) ∧ Z W') →
      J 0 L0 → Cl ⟨w, r⟩ L0 W → CW (some none) 0 P c (bodyPostM Fence.wide 0 P fn (fun e W' => (∃ v, e = .returned v) ∧ ((k = n ∧ ∃ Lc', J n Lc' ∧ Cl ⟨w, r⟩ Lc' W') ∨ (k < n ∧ Z W')))) (fr (F l) [] []) W) : IterS P w gf lb.toArray n enc := fun r l k J Z L0 W hk hY hZ h0 hW => by
  refine callsIn_of_wp_marks hf hb trivial ?_
  have e : #[Value.func (.yield l) #[] #[]] ++ lb.toArray ++ Array.replicate (fn.ntmps - (#[Value.func (.yield l) #[] #[]] ++ lb.toArray).size) undef = (F l).toArray := by
    rw [← hl]; simp
  rw [e]
  exact h r l k J Z L0 W hk hY hZ h0 hW
variable {w0 : Base} {r : Option (Option Nat)} {R' : Ending → World → Prop}
theorem run_callB {f : FuncId} {x : Operand} {xs : Array Operand} {ts : Array TypeId} {args bnd : List Value} (he : Enters P f) (ho : o.op = .call { callee := .value x, args := xs, argTypes := ts }) (hx : ev bs us x = .func (.func f) bnd.toArray #[]) (ha : xs.toList.map (ev bs us) = args) (w : World) :
    (execOp (ev bs us) o).run P w = .ok (.enter f (bnd ++ args).toArray) w := by
  have e : xs.map (ev bs us) = args.toArray := by subst ha; apply Array.ext'; simp only [Array.toList_map]
  unfold execOp
  have e2 : bnd.toArray ++ args.toArray ++ (#[] : Array Value) = (bnd ++ args).toArray := by simp
  simp only [ho, resolve, e, hx, Deferred.ofValue, Sem.run_bind, Sem.run_pure, Result.andThen_ok, invoke, e2]
  exact he _ w
theorem r_bound {f : Fn} {cs : Array Operand} {vs : List Value} (ho : o.op = .makeFunc f cs #[]) (hc : cs.toList.map (ev bs us) = vs) : Runs P bs us o (.func f vs.toArray #[]) :=
  r_makeFunc ho (by subst hc; apply Array.ext'; simp only [Array.toList_map]) (by simp)
/-- a call of a function that holds its first arguments -/
theorem l_callB (hW : Cl w0 L W) {f : FuncId} {x : Operand} {xs : Array Operand} {ts : Array TypeId} {args bnd : List Value} (hgv : Gives P f (bnd ++ args).toArray v) (he : Enters P f) (hg : o.guard = none) (ho : o.op = .call { callee := .value x, args := xs, argTypes := ts }) (hx : ev bs us x = .func (.func f) bnd.toArray #[]) (ha : xs.toList.map (ev bs us) = args) (hd : o.dst = some d)
    (h : ∀ W', Cl w0 L W' → LW r m P ops Q rest (fr bs ((d, v) :: us) ds) W') : LW r m P ops Q (o :: rest) (fr bs us ds) W :=
  l_enter hg (run_callB he ho hx ha) hd ((hgv W).mono fun _ w ⟨he, hb⟩ => ⟨v, he, h w (hW.past hb)⟩)
theorem ret_cellC {p : Tmp} {t : TypeId} {g : Nat} {ty : TypeId} (hW : Cl w0 L W) (q : Nat) (ht : TyC P t) (hr : fn.results = #[.cell p t]) (hp : look bs us p = .pointer (some ⟨g, 0, none⟩)) (hL : L[q]? = some ⟨g, [v], ty⟩)
    (h : R' (.returned v) W) : bodyPost P fn R' .ret (fr bs us []) W := by
  refine ⟨rfl, _, ?_, h⟩
  have hc : W.cell? ⟨g, 0, none⟩ = some v := (cell_at (hW.at q hL) 0).trans rfl
  have h2 : (toL bs us).toArray.getD p undef = .pointer (some ⟨g, 0, none⟩) := by rw [nth_getD, ← look_nth]; exact hp
  show (results fn (toL bs us).toArray).run P W = _
  rw [Array.getD_eq_getD_getElem?] at h2
  simp at h2
  simp [results, hr, asAddr, loadVar, ht.agg W, hc, h2]
end
end Go.Proofs.Ytoegpalacppllaa

/- Paths, by the program. -/
namespace Go.Proofs.Ytoegpalacppllaa
open Go.RowKit Pl
open Tr Hn
/-- the first special node of a path -/
theorem bet_first (d : Int) (w : Nat) : ∀ n, ∃ k, k ≤ n ∧ (∀ i, i < k → specN d (sh w (n - i)) = false) ∧ (k < n → specN d (sh w (n - k)) = true) ∧ bet d w n = if k < n then sh w (n - k) else 0
  | 0 => ⟨0, Nat.le_refl _, fun i hi => by omega, fun h => by omega, rfl⟩
  | n + 1 => by
    cases h : specN d (sh w (n + 1)) with
    | true => exact ⟨0, Nat.zero_le _, fun i hi => by omega, fun _ => h, by rw [bet, if_pos h, if_pos (by omega)]; rfl⟩
    | false =>
      obtain ⟨k, h1, h2, h3, h4⟩ := bet_first d w n
      refine ⟨k + 1, by omega, fun i hi => ?_, fun hk => ?_, ?_⟩
      · cases i with
        | zero => exact h
        | succ i => rw [show n + 1 - (i + 1) = n - i by omega]; exact h2 i (by omega)
      · rw [show n + 1 - (k + 1) = n - k by omega]; exact h3 (by omega)
      · rw [bet, if_neg (by rw [h]; decide), h4, show n + 1 - (k + 1) = n - k by omega]
        by_cases hk : k < n
        · rw [if_pos hk, if_pos (by omega)]
        · rw [if_neg hk, if_neg (by omega)]
set_option maxRecDepth 10000 in
/-- headend/cover.path$1 -/
theorem j_path {w : World} (y n gf gt : Nat) (h0 : 0 < y) (hy : y < 128) (hn : n ≤ lev y) (hP : w.cell? ⟨gf, 0, none⟩ = some (.int .i64 ((sh y n : Nat) : Int)) ∧ w.cell? ⟨gt, 0, none⟩ = some (.int .i64 (y : Int))) : IterS Try.prog w 155 #[.pointer (some ⟨gf, 0, none⟩), .pointer (some ⟨gt, 0, none⟩)] n (fun i => #[.int .i64 ((sh y (n - (i + 1)) : Nat) : Int)]) := by
  refine iterS_of (lb := [.pointer (some ⟨gf, 0, none⟩), .pointer (some ⟨gt, 0, none⟩)]) (F := fun l => [.func (.yield l) #[] #[], .pointer (some ⟨gf, 0, none⟩), .pointer (some ⟨gt, 0, none⟩), undef, undef, undef, undef, undef, undef, undef, undef, undef, undef, undef, undef, undef]) Try.func155 rfl (fun l => rfl) ?_
  intro r l k J Z L0 W hk hY hZ hJ hW
  refine c_seq ?_
  refine c_reg ?_
  refine l_loadF hW tyC177 (v := .int .i64 ((sh y n : Nat) : Int)) hP.1 rfl rfl rfl rfl ?_
  refine l_val (r_assign (v := .int _ _) rfl rfl) rfl rfl ?_
  refine l_end ?_
  refine n_then ?_
  refine c_block ?_
  refine c_loop (fun (x : Nat × List Blk) (j : Nat → Value) => [.func (.yield l) #[] #[], .pointer (some ⟨gf, 0, none⟩), .pointer (some ⟨gt, 0, none⟩), j 3, .int .i64 ((sh y (n - x.1) : Nat) : Int), .int .i64 ((sh y n : Nat) : Int), j 6, j 7, j 8, j 9, j 10, j 11, j 12, j 13, j 14, j 15]) (fun (x : Nat × List Blk) => [] ++ x.2) (fun (x : Nat × List Blk) => x.1 ≤ k ∧ J x.1 x.2) (fun (x : Nat × List Blk) => k - x.1) (0, L0) (by kernel_rfl) hW ⟨Nat.zero_le _, hJ⟩ ?_
  intro x j W hx hW
  obtain ⟨hx, hJx⟩ := hx
  have hlv := sh_lev hy (i := n - x.1) (by omega)
  have hle := sh_le y (n - x.1)
  have hpos : 0 < sh y (n - x.1) := sh_pos h0 hy (by omega)
  refine c_seq ?_
  refine c_seq ?_
  refine c_reg ?_
  refine l_val (r_move (v := .int _ _) rfl rfl) rfl rfl ?_
  refine l_loadF hW tyC177 (v := .int .i64 (y : Int)) hP.2 rfl rfl rfl rfl ?_
  refine l_val (r_neqN rfl rfl rfl rfl) rfl rfl ?_
  refine l_split ?_ ?_
  · intro hc1
    replace hc1 := of_decide_eq_true hc1
    have hlt : x.1 < n := Nat.lt_of_le_of_ne (by omega) fun e => hc1 (by rw [e, Nat.sub_self]; rfl)
    refine l_end ?_
    refine n_then ?_
    refine c_true rfl ?_
    refine c_skip ?_
    refine n_then ?_
    refine c_block ?_
    refine c_seq ?_
    refine c_reg ?_
    refine l_val (r_move (v := .int _ _) rfl rfl) rfl rfl ?_
    refine l_loadF hW tyC177 (v := .int .i64 (y : Int)) hP.2 rfl rfl rfl rfl ?_
    refine l_call hW (g_ptoward (sh y (n - x.1)) y hpos (by omega) h0 hy (by omega)) en156 rfl rfl rfl rfl ?_
    intro W hW
    rw [show lev y - lev (sh y (n - x.1)) - 1 = n - (x.1 + 1) by omega]
    refine l_val (r_assign (v := .int _ _) rfl rfl) rfl rfl ?_
    refine l_end ?_
    refine n_then ?_
    refine c_seq ?_
    refine c_reg ?_
    refine l_val (r_move (v := .func _ _ _) rfl rfl) rfl rfl ?_
    refine l_val (r_move (v := .int _ _) rfl rfl) rfl rfl ?_
    have hYY : YieldAt Fence.wide 0 Try.prog l #[.int .i64 ((sh y (n - (x.1 + 1)) : Nat) : Int)] W (fun e W' => e = .returned (.bool (decide (x.1 < k))) ∧ ((x.1 < k ∧ ∃ Lc', J (x.1 + 1) Lc' ∧ Cl ⟨w, r⟩ Lc' W') ∨ (¬ x.1 < k ∧ Z W'))) := by
      by_cases hlk : x.1 < k
      · obtain ⟨f1, f2, f3, f4, f5, f6⟩ := hY x.1 x.2 W hlk hJx hW
        exact ⟨f1, f2, f3, f4, f5, f6.mono fun e W' ⟨h1, h2⟩ => ⟨by rw [h1, decide_eq_true hlk], .inl ⟨hlk, h2⟩⟩⟩
      · obtain rfl : x.1 = k := by omega
        obtain ⟨f1, f2, f3, f4, f5, f6⟩ := hZ x.2 W hlt hJx hW
        exact ⟨f1, f2, f3, f4, f5, f6.mono fun e W' ⟨h1, h2⟩ => ⟨by rw [h1, decide_eq_false hlk], .inr ⟨hlk, h2⟩⟩⟩
    refine l_yieldS hYY rfl rfl rfl rfl rfl ?_
    intro W hR
    refine l_split ?_ ?_
    · intro hc2
      have hlk : x.1 < k := of_decide_eq_true hc2
      obtain ⟨Lc1, hJ1, hW⟩ : ∃ Lc', J (x.1 + 1) Lc' ∧ Cl ⟨w, r⟩ Lc' W := by
        rcases hR with ⟨-, h⟩ | ⟨h, -⟩
        · exact h
        · omega
      refine l_val (r_not rfl rfl) rfl rfl ?_
      refine l_end ?_
      refine n_then ?_
      refine c_false rfl ?_
      refine c_skip ?_
      refine n_block ?_
      refine n_then ?_
      exact loop_next (x.1 + 1, Lc1) (by kernel_rfl) hW ⟨by simp only; omega, hJ1⟩ (by simp only; omega)
    · intro hc2
      have hlk : ¬ x.1 < k := of_decide_eq_false hc2
      have hZ1 : Z W := by
        rcases hR with ⟨h, -⟩ | ⟨-, h⟩
        · omega
        · exact h
      refine l_val (r_not rfl rfl) rfl rfl ?_
      refine l_end ?_
      refine n_then ?_
      refine c_true rfl ?_
      refine c_ret ?_
      refine r_block ?_
      refine r_then ?_
      refine r_block ?_
      refine postM_of ?_
      refine ret_none rfl ?_
      exact ⟨⟨_, rfl⟩, .inr ⟨by omega, hZ1⟩⟩
  · intro hc1
    replace hc1 := of_decide_eq_false hc1
    have hxn : x.1 = n := Classical.byContradiction fun hne => by rw [show sh y (n - x.1) = y by omega] at hlv; omega
    refine l_end ?_
    refine n_then ?_
    refine c_false rfl ?_
    refine c_exit ?_
    refine x_then ?_
    refine x_then ?_
    refine x_hit ?_
    refine postM_of ?_
    refine end_none rfl ?_
    exact ⟨⟨_, rfl⟩, .inl ⟨by omega, x.2, hxn ▸ hJx, hW⟩⟩

end Go.Proofs.Ytoegpalacppllaa

/- Cuts, by the program. -/
namespace Go.Proofs.Ytoegpalacppllaa
open Go.RowKit Pl
open Tr Hn
set_option maxRecDepth 10000 in
/-- headend/cover.path -/
theorem g_ppath (v y : Nat) : GivesX Try.prog 140 [.int .i64 (v : Int), .int .i64 (y : Int)].toArray (fun _ => True) (fun u Bs => ∃ g1 g2, u = .func (.func 155) #[] #[.pointer (some ⟨g1, 0, none⟩), .pointer (some ⟨g2, 0, none⟩)] ∧ Bs = [⟨g2, [.int .i64 (y : Int)], 177⟩, ⟨g1, [.int .i64 (v : Int)], 177⟩]) := by
  refine givesX_of Try.func140 rfl (bs := [.int .i64 (v : Int), .int .i64 (y : Int), undef, undef, undef, undef]) rfl ?_
  intro w hP hW
  refine c_seq ?_
  refine c_reg ?_
  refine l_boxC hW (v := .int _ _) rfl rfl rfl rfl rfl ?_
  intro g1 W hW
  refine l_boxC hW (v := .int _ _) rfl rfl rfl rfl rfl ?_
  intro g2 W hW
  refine l_val (r_assign (v := .nilFunc) rfl rfl) rfl rfl ?_
  refine l_end ?_
  refine n_then ?_
  refine c_seq ?_
  refine c_reg ?_
  refine l_val (r_closure (vs := [.pointer (some ⟨g1, 0, none⟩), .pointer (some ⟨g2, 0, none⟩)]) rfl rfl) rfl rfl ?_
  refine l_val (r_assign (v := .func _ _ _) rfl rfl) rfl rfl ?_
  refine l_end ?_
  refine n_then ?_
  refine c_ret ?_
  refine ret_tmp (v := .func _ _ _) rfl rfl ?_
  exact ⟨_, _, rfl, ⟨_, _, rfl, rfl⟩, hW⟩

set_option maxRecDepth 10000 in
/-- headend/cover.first -/
theorem g_pfirstX (s : Sc) (z n gf gt : Nat) (z0 : 1 < z) (zz : z < 128) (hn : n ≤ lev (sh z 1)) : GivesX Try.prog 154 [.func (.func 155) #[] #[.pointer (some ⟨gf, 0, none⟩), .pointer (some ⟨gt, 0, none⟩)], .func (.func 138) #[.agg [.int .u8 s.k, .int .i64 s.d, .int .i64 (strideN s.d : Int)].toArray] #[]].toArray (fun w => w.cell? ⟨gf, 0, none⟩ = some (.int .i64 ((sh (sh z 1) n : Nat) : Int)) ∧ w.cell? ⟨gt, 0, none⟩ = some (.int .i64 ((sh z 1 : Nat) : Int))) (fun v Bs => v = .int .i64 ((bet s.d z n : Nat) : Int) ∧ Bs = []) := by
  refine givesXM_of Try.func154 rfl (bs := [.func (.func 155) #[] #[.pointer (some ⟨gf, 0, none⟩), .pointer (some ⟨gt, 0, none⟩)], .func (.func 138) #[.agg [.int .u8 s.k, .int .i64 s.d, .int .i64 (strideN s.d : Int)].toArray] #[], undef, undef, undef, undef, undef, undef, undef, undef, undef, undef]) rfl ?_
  intro w hP hW
  obtain ⟨k, hkn0, hk1, hk2, hk3⟩ := bet_first s.d z n
  have hz1 : 0 < sh z 1 := by show 0 < z / 2; omega
  have hz2 : sh z 1 < 128 := by show z / 2 < 128; omega
  have hnd : ∀ i, i < n → sh z (n - i) = sh (sh z 1) (n - (i + 1)) := fun i hi => by rw [sh_add]; congr 1; omega
  refine c_seq ?_
  refine c_reg ?_
  refine l_boxC hW (v := .func _ _ _) rfl rfl rfl rfl rfl ?_
  intro g1 W hW
  refine l_allocC hW tyZ177 rfl rfl rfl rfl ?_
  intro g2 W hW
  refine l_end ?_
  refine n_then ?_
  refine c_seq ?_
  refine c_seq ?_
  refine c_reg ?_
  refine l_val (r_move (v := .func _ _ _) rfl rfl) rfl rfl ?_
  refine l_end ?_
  refine n_then ?_
  refine c_block ?_
  refine c_rangeS (j_path (sh z 1) n gf gt hz1 hz2 hn hP) hkn0 en155 rfl (fun _ => rfl) (fun _ Lc => Lc = [⟨g2, [z177], 177⟩, ⟨g1, [.func (.func 138) #[.agg [.int .u8 s.k, .int .i64 s.d, .int .i64 (strideN s.d : Int)].toArray] #[]], 192⟩]) (fun Lc => Lc = [⟨g2, [.int .i64 ((sh (sh z 1) (n - (k + 1)) : Nat) : Int)], 177⟩, ⟨g1, [.func (.func 138) #[.agg [.int .u8 s.k, .int .i64 s.d, .int .i64 (strideN s.d : Int)].toArray] #[]], 192⟩]) rfl hW (fun (i : Nat) => fr [.func (.func 155) #[] #[.pointer (some ⟨gf, 0, none⟩), .pointer (some ⟨gt, 0, none⟩)], .func (.func 138) #[.agg [.int .u8 s.k, .int .i64 s.d, .int .i64 (strideN s.d : Int)].toArray] #[], undef, .pointer (some ⟨g1, 0, none⟩), .pointer (some ⟨g2, 0, none⟩), .int .i64 ((sh (sh z 1) (n - (i + 1)) : Nat) : Int), .func (.func 155) #[] #[.pointer (some ⟨gf, 0, none⟩), .pointer (some ⟨gt, 0, none⟩)], .int .i64 ((sh (sh z 1) (n - (i + 1)) : Nat) : Int), undef, undef, undef, undef] [] []) (fun (i : Nat) => [.func (.func 155) #[] #[.pointer (some ⟨gf, 0, none⟩), .pointer (some ⟨gt, 0, none⟩)], .func (.func 138) #[.agg [.int .u8 s.k, .int .i64 s.d, .int .i64 (strideN s.d : Int)].toArray] #[], undef, .pointer (some ⟨g1, 0, none⟩), .pointer (some ⟨g2, 0, none⟩), undef, .func (.func 155) #[] #[.pointer (some ⟨gf, 0, none⟩), .pointer (some ⟨gt, 0, none⟩)], .int .i64 ((sh (sh z 1) (n - (i + 1)) : Nat) : Int), undef, undef, undef, undef]) (fun _ => by kernel_rfl) ?_ ?_ ?_ ?_ ?_
  · intro lq i W
    refine c_reg ?_
    refine l_val (r_assign (v := .int _ _) rfl rfl) rfl rfl ?_
    refine l_end ?_
    refine n_then ⟨?_, rfl⟩
    exact congrArg (fun x => (fr x [] [] : Act)) (by kernel_rfl)
  · intro l r i Lc W hi hJ hW
    subst hJ
    refine c_block ?_
    refine c_seq ?_
    refine c_reg ?_
    refine l_loadC hW 1 tyC192 rfl rfl rfl rfl rfl rfl ?_
    refine l_val (r_move (v := .int _ _) rfl rfl) rfl rfl ?_
    refine l_callB hW (bnd := [.agg [.int .u8 s.k, .int .i64 s.d, .int .i64 (strideN s.d : Int)].toArray]) (args := [.int .i64 ((sh (sh z 1) (n - (i + 1)) : Nat) : Int)]) (g_pspecial s (sh (sh z 1) (n - (i + 1))) (sh_pos hz1 hz2 (by omega)) (Nat.lt_of_le_of_lt (sh_le _ _) hz2)) en138 rfl rfl rfl rfl rfl ?_
    intro W hW
    rw [show specN s.d (sh (sh z 1) (n - (i + 1))) = false from (hnd i (by omega)) ▸ hk1 i (by omega)]
    refine l_end ?_
    refine n_then ?_
    refine c_false rfl ?_
    refine c_skip ?_
    refine n_block ?_
    exact ⟨rfl, _, rfl, hW⟩
  · intro l r Lc W hi hJ hW
    subst hJ
    refine c_block ?_
    refine c_seq ?_
    refine c_reg ?_
    refine l_loadC hW 1 tyC192 rfl rfl rfl rfl rfl rfl ?_
    refine l_val (r_move (v := .int _ _) rfl rfl) rfl rfl ?_
    refine l_callB hW (bnd := [.agg [.int .u8 s.k, .int .i64 s.d, .int .i64 (strideN s.d : Int)].toArray]) (args := [.int .i64 ((sh (sh z 1) (n - (k + 1)) : Nat) : Int)]) (g_pspecial s (sh (sh z 1) (n - (k + 1))) (sh_pos hz1 hz2 (by omega)) (Nat.lt_of_le_of_lt (sh_le _ _) hz2)) en138 rfl rfl rfl rfl rfl ?_
    intro W hW
    rw [show specN s.d (sh (sh z 1) (n - (k + 1))) = true from (hnd k (by omega)) ▸ hk2 (by omega)]
    refine l_end ?_
    refine n_then ?_
    refine c_true rfl ?_
    refine c_seq ?_
    refine c_reg ?_
    refine l_val (r_move (v := .int _ _) rfl rfl) rfl rfl ?_
    refine l_storeC hW 0 tyC177 (v := .int _ _) rfl rfl rfl rfl rfl rfl (by first | rfl | omega | (simp; done) | (simp; omega)) rfl ?_
    intro W hW
    refine l_end ?_
    refine n_then ?_
    refine c_ret ?_
    refine r_block ?_
    exact ⟨rfl, _, rfl, hW⟩
  · intro D r Lc W hkn hDb hJ hW hD
    subst hJ
    refine n_block ?_
    refine n_then ?_
    refine c_seq ?_
    refine c_reg ?_
    refine l_storeC hW 0 tyC177 (v := .int _ _) rfl rfl rfl rfl rfl rfl (by first | rfl | omega | (simp; done) | (simp; omega)) rfl ?_
    intro W hW
    refine l_end ?_
    refine n_then ?_
    refine c_ret ?_
    refine r_mark hW hDb hD ?_
    intro r W hW
    refine ret_cellC hW 0 tyC177 rfl rfl rfl ?_
    exact ⟨_, [], rfl, ⟨by rw [hk3, if_neg (by omega)]; rfl, rfl⟩, (hW.tobase).sub (List.nil_sublist _)⟩
  · intro D r Lc W hkn hDb hJ hW hD
    subst hJ
    refine r_block ?_
    refine r_then ?_
    refine r_mark hW hDb hD ?_
    intro r W hW
    refine ret_cellC hW 0 tyC177 rfl rfl rfl ?_
    exact ⟨_, [], rfl, ⟨by rw [hk3, if_pos hkn, hnd k hkn], rfl⟩, (hW.tobase).sub (List.nil_sublist _)⟩

theorem g_pfirst (s : Sc) (z n gf gt : Nat) (z0 : 1 < z) (zz : z < 128) (hn : n ≤ lev (sh z 1)) : GivesR Try.prog 154 [.func (.func 155) #[] #[.pointer (some ⟨gf, 0, none⟩), .pointer (some ⟨gt, 0, none⟩)], .func (.func 138) #[.agg [.int .u8 s.k, .int .i64 s.d, .int .i64 (strideN s.d : Int)].toArray] #[]].toArray (fun w => w.cell? ⟨gf, 0, none⟩ = some (.int .i64 ((sh (sh z 1) n : Nat) : Int)) ∧ w.cell? ⟨gt, 0, none⟩ = some (.int .i64 ((sh z 1 : Nat) : Int))) (.int .i64 ((bet s.d z n : Nat) : Int)) := fun w hp =>
  (g_pfirstX s z n gf gt z0 zz hn w hp).mono fun e w' ⟨v, Bs, he, ⟨hv, hb⟩, hC⟩ => ⟨by rw [he, hv], hC.below⟩
set_option maxRecDepth 10000 in
/-- (headend/cover.tree).cut -/
theorem g_pcut (s : Sc) (v z : Nat) (hz : 1 < z) (hz2 : z < 128) (hb : belowN z v = true) (hne : lev v < lev z) : Gives Try.prog 139 [.agg [.int .u8 s.k, .int .i64 s.d, .int .i64 (strideN s.d : Int)].toArray, .int .i64 (v : Int), .int .i64 (z : Int)].toArray (.int .i64 ((bet s.d z (lev z - lev v - 1) : Nat) : Int)) := by
  refine gives_of Try.func139 rfl (bs := [.agg [.int .u8 s.k, .int .i64 s.d, .int .i64 (strideN s.d : Int)].toArray, .int .i64 (v : Int), .int .i64 (z : Int), undef, undef, undef, undef, undef, undef, undef, undef, undef, undef, undef]) rfl ?_
  intro w hW
  have hb2 := (below_iff.1 hb).2
  have hlz : lev (sh z 1) = lev z - 1 := sh_lev hz2 (by omega)
  have hvs : v = sh (sh z 1) (lev z - lev v - 1) := by rw [sh_add, show 1 + (lev z - lev v - 1) = lev z - lev v by omega]; exact hb2.symm
  refine c_seq ?_
  refine c_reg ?_
  refine l_box hW rfl rfl rfl rfl ?_
  intro g1 W hW
  refine l_val (r_assign (v := .int _ _) rfl rfl) rfl rfl ?_
  refine l_end ?_
  refine n_then ?_
  refine c_seq ?_
  refine c_regM hW [] [.q, .q, .q, .mk 0, .q, .q, .rd 0, .q] [⟨10, fun _ u Bs => ∃ g1 g2, u = .func (.func 155) #[] #[.pointer (some ⟨g1, 0, none⟩), .pointer (some ⟨g2, 0, none⟩)] ∧ Bs = [⟨g2, [.int .i64 ((z / 2 ^ 1 : Nat) : Int)], 177⟩, ⟨g1, [.int .i64 (v : Int)], 177⟩]⟩] [[]] [3] [0, 0, 2, 7, 0, 16, 63, 127] (by kernel_rfl) (by kernel_rfl) rfl (by kernel_rfl) ?_
  refine y_val (r_move (v := .int _ _) rfl rfl) rfl rfl ?_
  refine y_val (r_move (v := .int _ _) rfl rfl) rfl rfl ?_
  refine y_val (r_shr_i64N (n := z) (s := 1) rfl rfl rfl (by omega)) rfl rfl ?_
  refine y_callX 0 (g_ppath v (z / 2 ^ 1)) en140 rfl rfl (fun _ _ _ _ => trivial) rfl rfl ?_
  refine y_loadA 0 tyA124 rfl rfl rfl rfl rfl (by first | rfl | exact kc_len _ | exact kcf_len _ | exact boC_len _ _ | (simp; done)) (by decide) ?_
  refine y_val (r_bound (vs := [.agg [.int .u8 s.k, .int .i64 s.d, .int .i64 (strideN s.d : Int)].toArray]) rfl rfl) rfl rfl ?_
  refine y_callRd (v := .int .i64 ((bet s.d z (lev z - lev v - 1) : Nat) : Int)) 0 rfl rfl ?_ en154 rfl rfl rfl ?_
  · rintro _ Bs ⟨ga, gb, rfl, rfl⟩
    exact ⟨_, _, g_pfirst s z (lev z - lev v - 1) ga gb hz hz2 (by omega), fun M w hC => ⟨(cell_at ((hC.sub (List.sublist_append_right M _)).holds ⟨ga, [.int .i64 (v : Int)], 177⟩ (by simp)) 0).trans (by rw [← hvs]; rfl), (cell_at ((hC.sub (List.sublist_append_right M _)).holds ⟨gb, [.int .i64 ((z / 2 ^ 1 : Nat) : Int)], 177⟩ (by simp)) 0).trans rfl⟩, rfl⟩
  refine y_val (r_assign (v := .int _ _) rfl rfl) rfl rfl ?_
  refine y_end ?_
  refine y_made ?_
  rintro _ Bs1 -
  intro W hW
  refine n_then ?_
  refine c_ret ?_
  refine ret_tmp (v := .int .i64 ((bet s.d z (lev z - lev v - 1) : Nat) : Int)) rfl ?_ ⟨rfl, hW.below⟩
  rfl

end Go.Proofs.Ytoegpalacppllaa

