/- Bounds on rounds and queries. -/
import Derived.Test.YtoegpalacppllaaFacts
import Derived.Test.YtoegpalacppllaaVals
import Derived.Test.YtoegpalacppllaaC30
namespace Go.Proofs.Ytoegpalacppllaa
open Go.RowKit Pl
open Tr Hn
set_option maxRecDepth 10000 in
/-- headend/headendref03.Receivers -/
theorem g_Receivers (d : Int) (h0 : 0 ≤ d) (h6 : d ≤ 6) : Gives Try.prog 65 [.int .i64 d].toArray (.int .i64 ((p2 d.toNat : Nat) : Int)) := by
  refine gives_of Try.func65 rfl (bs := [.int .i64 d, undef, undef, undef, undef, undef, undef, undef, undef, undef, undef, undef, undef]) rfl ?_
  intro w hW
  refine c_seq ?_
  refine c_reg ?_
  refine l_val (r_assign (v := .int _ _) rfl rfl) rfl rfl ?_
  refine l_end ?_
  refine n_then ?_
  refine c_seq ?_
  refine c_reg ?_
  refine l_val (r_assign (v := .int _ _) rfl rfl) rfl rfl ?_
  refine l_end ?_
  refine n_then ?_
  refine c_seq ?_
  refine c_seq ?_
  refine c_reg ?_
  refine l_val (r_assign (v := .int _ _) rfl rfl) rfl rfl ?_
  refine l_end ?_
  refine n_then ?_
  refine c_block ?_
  refine c_loop (fun (i : Nat) (j : Nat → Value) => [.int .i64 d, j 1, .int .i64 0, .int .i64 ((p2 i : Nat) : Int), .int .i64 (i : Int), j 5, j 6, j 7, j 8, j 9, j 10, j 11, j 12]) (fun (i : Nat) => []) (fun (i : Nat) => i ≤ d.toNat) (fun (i : Nat) => d.toNat - i) 0 (by kernel_rfl) hW (by omega) ?_
  intro i j W hx hW
  have hp := p2_le (n := i) (by omega)
  refine c_seq ?_
  refine c_seq ?_
  refine c_reg ?_
  refine l_val (r_move (v := .int _ _) rfl rfl) rfl rfl ?_
  refine l_val (r_move (v := .int _ _) rfl rfl) rfl rfl ?_
  refine l_val (r_lss rfl rfl rfl rfl) rfl rfl ?_
  refine l_split ?_ ?_
  · intro hc1
    replace hc1 := of_decide_eq_true hc1
    refine l_end ?_
    refine n_then ?_
    refine c_true rfl ?_
    refine c_skip ?_
    refine n_then ?_
    refine c_seq ?_
    refine c_block ?_
    refine c_reg ?_
    refine l_val (r_move (v := .int _ _) rfl rfl) rfl rfl ?_
    refine l_val (r_mulN (m := 2) rfl rfl rfl (by omega)) rfl rfl ?_
    refine l_val (r_assign (v := .int _ _) rfl rfl) rfl rfl ?_
    refine l_end ?_
    refine n_block ?_
    refine n_then ?_
    refine c_reg ?_
    refine l_val (r_move (v := .int _ _) rfl rfl) rfl rfl ?_
    refine l_val (r_addN (n := 1) rfl rfl rfl (by omega)) rfl rfl ?_
    refine l_val (r_assign (v := .int _ _) rfl rfl) rfl rfl ?_
    refine l_end ?_
    refine n_then ?_
    exact loop_next (i + 1) (by kernel_rfl) hW (by omega) (by omega)
  · intro hc1
    replace hc1 := of_decide_eq_false hc1
    obtain rfl : i = d.toNat := by omega
    refine l_end ?_
    refine n_then ?_
    refine c_false rfl ?_
    refine c_exit ?_
    refine x_then ?_
    refine x_then ?_
    refine x_hit ?_
    refine n_then ?_
    refine c_seq ?_
    refine c_reg ?_
    refine l_val (r_move (v := .int _ _) rfl rfl) rfl rfl ?_
    refine l_val (r_assign (v := .int _ _) rfl rfl) rfl rfl ?_
    refine l_end ?_
    refine n_then ?_
    refine c_ret ?_
    refine ret_tmp (v := .int .i64 ((p2 d.toNat : Nat) : Int)) rfl ?_ ⟨rfl, hW.below⟩
    rfl

set_option maxRecDepth 10000 in
/-- headend/headendref08.Limit -/
theorem g_Limit (s : Sc) (noise : Int) (h : schB s = true) (n0 : 0 ≤ noise) (n8 : noise ≤ 8) : Gives Try.prog 37 [.agg [.int .u8 s.k, .int .i64 s.d, .int .i64 s.g, .int .u64 s.p, .int .u64 s.q, .int .u64 s.r].toArray, .int .i64 noise].toArray (.int .i64 (lim s.d noise)) := by
  refine gives_of Try.func37 rfl (bs := [.agg [.int .u8 s.k, .int .i64 s.d, .int .i64 s.g, .int .u64 s.p, .int .u64 s.q, .int .u64 s.r].toArray, .int .i64 noise, undef, undef, undef, undef, undef, undef, undef, undef, undef, undef, undef, undef, undef, undef, undef, undef]) rfl ?_
  intro w hW
  obtain ⟨-, -, d0, d6, -⟩ := schB_iff.1 h
  have hp := p2_le (n := s.d.toNat) (by omega)
  refine c_seq ?_
  refine c_reg ?_
  refine l_box hW rfl rfl rfl rfl ?_
  intro g1 W hW
  refine l_val (r_assign (v := .int _ _) rfl rfl) rfl rfl ?_
  refine l_end ?_
  refine n_then ?_
  refine c_seq ?_
  refine c_regY hW [] [.q, .q, .q, .q, .q, .q, .q, .q, .q, .q, .q, .q, .q, .q] [0, 1, 3, 7, 15, 0, 32, 96, 255, 0, 512, 1536, 4095, 8191] (by kernel_rfl) (by kernel_rfl) ?_
  refine y_val (r_fieldAddr 1 Try.underlying26 rfl tyC3.size rfl rfl rfl) rfl rfl ?_
  refine y_loadC 0 tyC3 rfl rfl rfl rfl rfl rfl (by decide) ?_
  refine y_call (g_Receivers _ (by omega) (by omega)) en65 rfl rfl rfl rfl ?_
  refine y_val (r_mulN (m := 2) rfl rfl rfl (by omega)) rfl rfl ?_
  refine y_val (r_addN (n := 1) rfl rfl rfl (by omega)) rfl rfl ?_
  refine y_val (r_fieldAddr 1 Try.underlying26 rfl tyC3.size rfl rfl rfl) rfl rfl ?_
  refine y_loadC 0 tyC3 rfl rfl rfl rfl rfl rfl (by decide) ?_
  refine y_val (r_addZ rfl rfl rfl (by omega)) rfl rfl ?_
  refine y_val (r_mulZ rfl rfl rfl (lim1 d0 d6)) rfl rfl ?_
  refine y_val (r_move (v := .int _ _) rfl rfl) rfl rfl ?_
  refine y_val (r_mulZ rfl rfl rfl (by omega)) rfl rfl ?_
  refine y_val (r_addZ rfl rfl rfl (by omega)) rfl rfl ?_
  refine y_val (r_mulZ rfl rfl rfl (lim2 d0 d6 n0 n8)) rfl rfl ?_
  refine y_val (r_assign (v := .int _ _) rfl rfl) rfl rfl ?_
  refine y_end ?_
  intro W hW
  refine n_then ?_
  refine c_ret ?_
  refine ret_tmp (v := .int .i64 (lim s.d noise)) rfl ?_ ⟨rfl, hW.below⟩
  rfl

set_option maxRecDepth 10000 in
/-- headend/trace.Bound -/
theorem g_Bound (s : Sc) (noise : Int) : Gives Try.prog 9 [.agg [.int .u8 s.k, .int .i64 s.d, .int .i64 s.g, .int .u64 s.p, .int .u64 s.q, .int .u64 s.r].toArray, .int .i64 noise].toArray (.tuple #[.int .i64 (boundV s noise), .int .i64 (boundE s noise)]) := by
  refine gives_of Try.func9 rfl (bs := [.agg [.int .u8 s.k, .int .i64 s.d, .int .i64 s.g, .int .u64 s.p, .int .u64 s.q, .int .u64 s.r].toArray, .int .i64 noise, undef, undef, undef, undef, undef, undef, undef, undef, undef, undef, undef, undef, undef, undef, undef, undef, undef, undef, undef, undef, undef, undef, undef, undef, undef, undef, undef, undef]) rfl ?_
  intro w hW
  refine c_seq ?_
  refine c_reg ?_
  refine l_box hW rfl rfl rfl rfl ?_
  intro g1 W hW
  refine l_val (r_assign (v := .int _ _) rfl rfl) rfl rfl ?_
  refine l_val (r_assign (v := .int _ _) rfl rfl) rfl rfl ?_
  refine l_end ?_
  refine n_then ?_
  refine c_seq ?_
  refine c_seq ?_
  refine c_reg ?_
  refine l_loadA hW 0 tyA26 rfl rfl rfl rfl rfl (by first | rfl | exact kc_len _ | exact kcf_len _ | (simp; done)) ?_
  refine l_call hW (g_Check _) en35 rfl rfl rfl rfl ?_
  intro W hW
  refine l_val (r_assign (v := .int _ _) rfl rfl) rfl rfl ?_
  refine l_end ?_
  refine n_then ?_
  refine c_seq ?_
  refine c_reg ?_
  refine l_val (r_move (v := .int _ _) rfl rfl) rfl rfl ?_
  refine l_val (r_neq rfl rfl rfl rfl) rfl rfl ?_
  refine l_split ?_ ?_
  · intro hc1
    replace hc1 := of_decide_eq_true hc1
    have hs := chk_bad hc1
    refine l_end ?_
    refine n_then ?_
    refine c_true rfl ?_
    refine c_seq ?_
    refine c_reg ?_
    refine l_val (r_move (v := .int _ _) rfl rfl) rfl rfl ?_
    refine l_val (r_assign (v := .int _ _) rfl rfl) rfl rfl ?_
    refine l_val (r_assign (v := .int _ _) rfl rfl) rfl rfl ?_
    refine l_end ?_
    refine n_then ?_
    refine c_ret ?_
    refine r_then ?_
    refine ret_tmp2 rfl rfl rfl ?_
    exact ⟨ret_ii (bound_bad hs).1.symm ((chk_no hs).trans (bound_bad hs).2.symm), hW.below⟩
  · intro hc1
    replace hc1 := of_decide_eq_false hc1
    have hs := chk_zero hc1
    obtain ⟨k1, k3, d0, d6, -⟩ := schB_iff.1 hs
    have hp := p2_le (n := s.d.toNat) (by omega)
    refine l_end ?_
    refine n_then ?_
    refine c_false rfl ?_
    refine c_skip ?_
    refine n_then ?_
    refine c_seq ?_
    refine c_seq ?_
    refine c_reg ?_
    refine l_val (r_move (v := .int _ _) rfl rfl) rfl rfl ?_
    refine l_val (r_lss rfl rfl rfl rfl) rfl rfl ?_
    refine l_split ?_ ?_
    · intro hc2
      replace hc2 := of_decide_eq_true hc2
      refine l_val (r_move (v := .bool _) rfl rfl) rfl rfl ?_
      refine l_not (by kernel_rfl) rfl ?_
      refine l_not (by kernel_rfl) rfl ?_
      refine l_val (r_pick (v := .bool _) rfl rfl rfl) rfl rfl ?_
      refine l_end ?_
      refine n_then ?_
      refine c_true rfl ?_
      refine c_seq ?_
      refine c_reg ?_
      refine l_val (r_assign (v := .int _ _) rfl rfl) rfl rfl ?_
      refine l_val (r_assign (v := .int _ _) rfl rfl) rfl rfl ?_
      refine l_end ?_
      refine n_then ?_
      refine c_ret ?_
      refine r_then ?_
      refine ret_tmp2 rfl rfl rfl ?_
      exact ⟨ret_ii (bound_arg hs (by omega)).1.symm (bound_arg hs (by omega)).2.symm, hW.below⟩
    · intro hc2
      replace hc2 := of_decide_eq_false hc2
      refine l_val (r_move (v := .bool _) rfl rfl) rfl rfl ?_
      refine l_valG (r_move (v := .int _ _) rfl rfl) (by kernel_rfl) rfl ?_
      refine l_valG (r_gtr rfl rfl rfl rfl) (by kernel_rfl) rfl ?_
      refine l_split ?_ ?_
      · intro hc3
        replace hc3 := of_decide_eq_true hc3
        refine l_val (r_pick (v := .bool _) rfl rfl rfl) rfl rfl ?_
        refine l_end ?_
        refine n_then ?_
        refine c_true rfl ?_
        refine c_seq ?_
        refine c_reg ?_
        refine l_val (r_assign (v := .int _ _) rfl rfl) rfl rfl ?_
        refine l_val (r_assign (v := .int _ _) rfl rfl) rfl rfl ?_
        refine l_end ?_
        refine n_then ?_
        refine c_ret ?_
        refine r_then ?_
        refine ret_tmp2 rfl rfl rfl ?_
        exact ⟨ret_ii (bound_arg hs (by omega)).1.symm (bound_arg hs (by omega)).2.symm, hW.below⟩
      · intro hc3
        replace hc3 := of_decide_eq_false hc3
        refine l_val (r_pick (v := .bool _) rfl rfl rfl) rfl rfl ?_
        refine l_end ?_
        refine n_then ?_
        refine c_false rfl ?_
        refine c_skip ?_
        refine n_then ?_
        refine c_seq ?_
        refine c_regY hW [] [.q, .q, .q, .q, .q, .q, .q, .q, .q, .q, .q, .q, .q, .q] [0, 1, 3, 7, 0, 16, 48, 127, 0, 256, 768, 2047, 4095, 8191] (by kernel_rfl) (by kernel_rfl) ?_
        refine y_val (r_fieldAddr 1 Try.underlying26 rfl tyC3.size rfl rfl rfl) rfl rfl ?_
        refine y_loadC 0 tyC3 rfl rfl rfl rfl rfl rfl (by decide) ?_
        refine y_val (r_shlZ (m := 2) rfl rfl rfl (by omega) (by omega) (by omega)) rfl rfl ?_
        refine y_val (r_addN (n := 1) rfl rfl rfl (by omega)) rfl rfl ?_
        refine y_val (r_fieldAddr 1 Try.underlying26 rfl tyC3.size rfl rfl rfl) rfl rfl ?_
        refine y_loadC 0 tyC3 rfl rfl rfl rfl rfl rfl (by decide) ?_
        refine y_val (r_addZ rfl rfl rfl (by omega)) rfl rfl ?_
        refine y_val (r_mulZ rfl rfl rfl (lim1 d0 d6)) rfl rfl ?_
        refine y_val (r_move (v := .int _ _) rfl rfl) rfl rfl ?_
        refine y_val (r_mulZ rfl rfl rfl (by omega)) rfl rfl ?_
        refine y_val (r_addZ rfl rfl rfl (by omega)) rfl rfl ?_
        refine y_val (r_mulZ rfl rfl rfl (lim2 d0 d6 (by omega) (by omega))) rfl rfl ?_
        refine y_val (r_assign (v := .int _ _) rfl rfl) rfl rfl ?_
        refine y_val (r_assign (v := .int _ _) rfl rfl) rfl rfl ?_
        refine y_end ?_
        intro W hW
        refine n_then ?_
        refine c_ret ?_
        refine ret_tmp2 rfl rfl rfl ?_
        exact ⟨ret_ii (bound_ok hs (by omega)).1.symm (bound_ok hs (by omega)).2.symm, hW.below⟩

set_option maxRecDepth 10000 in
/-- headend/headendref08.Bound -/
theorem g_rBound (s : Sc) (noise : Int) : Gives Try.prog 10 [.agg [.int .u8 s.k, .int .i64 s.d, .int .i64 s.g, .int .u64 s.p, .int .u64 s.q, .int .u64 s.r].toArray, .int .i64 noise].toArray (.tuple #[.int .i64 (boundV s noise), .int .i64 (boundE s noise)]) := by
  refine gives_of Try.func10 rfl (bs := [.agg [.int .u8 s.k, .int .i64 s.d, .int .i64 s.g, .int .u64 s.p, .int .u64 s.q, .int .u64 s.r].toArray, .int .i64 noise, undef, undef, undef, undef, undef, undef, undef, undef, undef, undef, undef, undef, undef, undef, undef, undef, undef, undef, undef]) rfl ?_
  intro w hW
  refine c_seq ?_
  refine c_reg ?_
  refine l_box hW rfl rfl rfl rfl ?_
  intro g1 W hW
  refine l_val (r_assign (v := .int _ _) rfl rfl) rfl rfl ?_
  refine l_val (r_assign (v := .int _ _) rfl rfl) rfl rfl ?_
  refine l_end ?_
  refine n_then ?_
  refine c_seq ?_
  refine c_seq ?_
  refine c_reg ?_
  refine l_loadA hW 0 tyA26 rfl rfl rfl rfl rfl (by first | rfl | exact kc_len _ | exact kcf_len _ | (simp; done)) ?_
  refine l_call hW (g_rCheck _) en36 rfl rfl rfl rfl ?_
  intro W hW
  refine l_val (r_assign (v := .int _ _) rfl rfl) rfl rfl ?_
  refine l_end ?_
  refine n_then ?_
  refine c_seq ?_
  refine c_reg ?_
  refine l_val (r_move (v := .int _ _) rfl rfl) rfl rfl ?_
  refine l_val (r_neq rfl rfl rfl rfl) rfl rfl ?_
  refine l_split ?_ ?_
  · intro hc1
    replace hc1 := of_decide_eq_true hc1
    have hs := chk_bad hc1
    refine l_end ?_
    refine n_then ?_
    refine c_true rfl ?_
    refine c_seq ?_
    refine c_reg ?_
    refine l_val (r_move (v := .int _ _) rfl rfl) rfl rfl ?_
    refine l_val (r_assign (v := .int _ _) rfl rfl) rfl rfl ?_
    refine l_val (r_assign (v := .int _ _) rfl rfl) rfl rfl ?_
    refine l_end ?_
    refine n_then ?_
    refine c_ret ?_
    refine r_then ?_
    refine ret_tmp2 rfl rfl rfl ?_
    exact ⟨ret_ii (bound_bad hs).1.symm ((chk_no hs).trans (bound_bad hs).2.symm), hW.below⟩
  · intro hc1
    replace hc1 := of_decide_eq_false hc1
    have hs := chk_zero hc1
    obtain ⟨k1, k3, d0, d6, -⟩ := schB_iff.1 hs
    have hp := p2_le (n := s.d.toNat) (by omega)
    refine l_end ?_
    refine n_then ?_
    refine c_false rfl ?_
    refine c_skip ?_
    refine n_then ?_
    refine c_seq ?_
    refine c_seq ?_
    refine c_reg ?_
    refine l_val (r_move (v := .int _ _) rfl rfl) rfl rfl ?_
    refine l_val (r_lss rfl rfl rfl rfl) rfl rfl ?_
    refine l_split ?_ ?_
    · intro hc2
      replace hc2 := of_decide_eq_true hc2
      refine l_val (r_move (v := .bool _) rfl rfl) rfl rfl ?_
      refine l_not (by kernel_rfl) rfl ?_
      refine l_not (by kernel_rfl) rfl ?_
      refine l_val (r_pick (v := .bool _) rfl rfl rfl) rfl rfl ?_
      refine l_end ?_
      refine n_then ?_
      refine c_true rfl ?_
      refine c_seq ?_
      refine c_reg ?_
      refine l_val (r_assign (v := .int _ _) rfl rfl) rfl rfl ?_
      refine l_val (r_assign (v := .int _ _) rfl rfl) rfl rfl ?_
      refine l_end ?_
      refine n_then ?_
      refine c_ret ?_
      refine r_then ?_
      refine ret_tmp2 rfl rfl rfl ?_
      exact ⟨ret_ii (bound_arg hs (by omega)).1.symm (bound_arg hs (by omega)).2.symm, hW.below⟩
    · intro hc2
      replace hc2 := of_decide_eq_false hc2
      refine l_val (r_move (v := .bool _) rfl rfl) rfl rfl ?_
      refine l_valG (r_move (v := .int _ _) rfl rfl) (by kernel_rfl) rfl ?_
      refine l_valG (r_gtr rfl rfl rfl rfl) (by kernel_rfl) rfl ?_
      refine l_split ?_ ?_
      · intro hc3
        replace hc3 := of_decide_eq_true hc3
        refine l_val (r_pick (v := .bool _) rfl rfl rfl) rfl rfl ?_
        refine l_end ?_
        refine n_then ?_
        refine c_true rfl ?_
        refine c_seq ?_
        refine c_reg ?_
        refine l_val (r_assign (v := .int _ _) rfl rfl) rfl rfl ?_
        refine l_val (r_assign (v := .int _ _) rfl rfl) rfl rfl ?_
        refine l_end ?_
        refine n_then ?_
        refine c_ret ?_
        refine r_then ?_
        refine ret_tmp2 rfl rfl rfl ?_
        exact ⟨ret_ii (bound_arg hs (by omega)).1.symm (bound_arg hs (by omega)).2.symm, hW.below⟩
      · intro hc3
        replace hc3 := of_decide_eq_false hc3
        refine l_val (r_pick (v := .bool _) rfl rfl rfl) rfl rfl ?_
        refine l_end ?_
        refine n_then ?_
        refine c_false rfl ?_
        refine c_skip ?_
        refine n_then ?_
        refine c_seq ?_
        refine c_reg ?_
        refine l_loadA hW 0 tyA26 rfl rfl rfl rfl rfl (by first | rfl | exact kc_len _ | exact kcf_len _ | (simp; done)) ?_
        refine l_val (r_move (v := .int _ _) rfl rfl) rfl rfl ?_
        refine l_call hW (g_Limit _ _ hs (by omega) (by omega)) en37 rfl rfl rfl rfl ?_
        intro W hW
        refine l_val (r_assign (v := .int _ _) rfl rfl) rfl rfl ?_
        refine l_val (r_assign (v := .int _ _) rfl rfl) rfl rfl ?_
        refine l_end ?_
        refine n_then ?_
        refine c_ret ?_
        refine ret_tmp2 rfl rfl rfl ?_
        exact ⟨ret_ii (bound_ok hs (by omega)).1.symm (bound_ok hs (by omega)).2.symm, hW.below⟩

set_option maxRecDepth 10000 in
/-- headend/trace.Rounds -/
theorem g_Rounds (u p : Int) : Gives Try.prog 7 [.int .i64 u, .int .i64 p].toArray (.tuple #[.int .i64 (roundsV u p), .int .i64 (roundsE u p)]) := by
  refine gives_of Try.func7 rfl (bs := [.int .i64 u, .int .i64 p, undef, undef, undef, undef, undef, undef, undef, undef, undef, undef, undef, undef, undef, undef, undef, undef, undef, undef, undef, undef, undef, undef, undef, undef, undef, undef, undef, undef, undef, undef]) rfl ?_
  intro w hW
  refine c_seq ?_
  refine c_reg ?_
  refine l_val (r_assign (v := .int _ _) rfl rfl) rfl rfl ?_
  refine l_val (r_assign (v := .int _ _) rfl rfl) rfl rfl ?_
  refine l_end ?_
  refine n_then ?_
  refine c_seq ?_
  refine c_seq ?_
  refine c_reg ?_
  refine l_val (r_move (v := .int _ _) rfl rfl) rfl rfl ?_
  refine l_val (r_lss rfl rfl rfl rfl) rfl rfl ?_
  refine l_split ?_ ?_
  · intro hc1
    replace hc1 := of_decide_eq_true hc1
    refine l_val (r_move (v := .bool _) rfl rfl) rfl rfl ?_
    refine l_not (by kernel_rfl) rfl ?_
    refine l_not (by kernel_rfl) rfl ?_
    refine l_val (r_pick (v := .bool _) rfl rfl rfl) rfl rfl ?_
    refine l_val (r_move (v := .bool _) rfl rfl) rfl rfl ?_
    refine l_not (by kernel_rfl) rfl ?_
    refine l_not (by kernel_rfl) rfl ?_
    refine l_val (r_pick (v := .bool _) rfl rfl rfl) rfl rfl ?_
    refine l_val (r_move (v := .bool _) rfl rfl) rfl rfl ?_
    refine l_not (by kernel_rfl) rfl ?_
    refine l_not (by kernel_rfl) rfl ?_
    refine l_not (by kernel_rfl) rfl ?_
    refine l_val (r_pick (v := .bool _) rfl rfl rfl) rfl rfl ?_
    refine l_end ?_
    refine n_then ?_
    refine c_true rfl ?_
    refine c_seq ?_
    refine c_reg ?_
    refine l_val (r_assign (v := .int _ _) rfl rfl) rfl rfl ?_
    refine l_val (r_assign (v := .int _ _) rfl rfl) rfl rfl ?_
    refine l_end ?_
    refine n_then ?_
    refine c_ret ?_
    refine r_then ?_
    refine ret_tmp2 rfl rfl rfl ?_
    exact ⟨ret_ii (rounds_bad (by omega)).1.symm (rounds_bad (by omega)).2.symm, hW.below⟩
  · intro hc1
    replace hc1 := of_decide_eq_false hc1
    refine l_val (r_move (v := .bool _) rfl rfl) rfl rfl ?_
    refine l_valG (r_move (v := .int _ _) rfl rfl) (by kernel_rfl) rfl ?_
    refine l_valG (r_gtr rfl rfl rfl rfl) (by kernel_rfl) rfl ?_
    refine l_split ?_ ?_
    · intro hc2
      replace hc2 := of_decide_eq_true hc2
      refine l_val (r_pick (v := .bool _) rfl rfl rfl) rfl rfl ?_
      refine l_val (r_move (v := .bool _) rfl rfl) rfl rfl ?_
      refine l_not (by kernel_rfl) rfl ?_
      refine l_not (by kernel_rfl) rfl ?_
      refine l_val (r_pick (v := .bool _) rfl rfl rfl) rfl rfl ?_
      refine l_val (r_move (v := .bool _) rfl rfl) rfl rfl ?_
      refine l_not (by kernel_rfl) rfl ?_
      refine l_not (by kernel_rfl) rfl ?_
      refine l_not (by kernel_rfl) rfl ?_
      refine l_val (r_pick (v := .bool _) rfl rfl rfl) rfl rfl ?_
      refine l_end ?_
      refine n_then ?_
      refine c_true rfl ?_
      refine c_seq ?_
      refine c_reg ?_
      refine l_val (r_assign (v := .int _ _) rfl rfl) rfl rfl ?_
      refine l_val (r_assign (v := .int _ _) rfl rfl) rfl rfl ?_
      refine l_end ?_
      refine n_then ?_
      refine c_ret ?_
      refine r_then ?_
      refine ret_tmp2 rfl rfl rfl ?_
      exact ⟨ret_ii (rounds_bad (by omega)).1.symm (rounds_bad (by omega)).2.symm, hW.below⟩
    · intro hc2
      replace hc2 := of_decide_eq_false hc2
      refine l_val (r_pick (v := .bool _) rfl rfl rfl) rfl rfl ?_
      refine l_val (r_move (v := .bool _) rfl rfl) rfl rfl ?_
      refine l_valG (r_move (v := .int _ _) rfl rfl) (by kernel_rfl) rfl ?_
      refine l_valG (r_lss rfl rfl rfl rfl) (by kernel_rfl) rfl ?_
      refine l_split ?_ ?_
      · intro hc3
        replace hc3 := of_decide_eq_true hc3
        refine l_val (r_pick (v := .bool _) rfl rfl rfl) rfl rfl ?_
        refine l_val (r_move (v := .bool _) rfl rfl) rfl rfl ?_
        refine l_not (by kernel_rfl) rfl ?_
        refine l_not (by kernel_rfl) rfl ?_
        refine l_not (by kernel_rfl) rfl ?_
        refine l_val (r_pick (v := .bool _) rfl rfl rfl) rfl rfl ?_
        refine l_end ?_
        refine n_then ?_
        refine c_true rfl ?_
        refine c_seq ?_
        refine c_reg ?_
        refine l_val (r_assign (v := .int _ _) rfl rfl) rfl rfl ?_
        refine l_val (r_assign (v := .int _ _) rfl rfl) rfl rfl ?_
        refine l_end ?_
        refine n_then ?_
        refine c_ret ?_
        refine r_then ?_
        refine ret_tmp2 rfl rfl rfl ?_
        exact ⟨ret_ii (rounds_bad (by omega)).1.symm (rounds_bad (by omega)).2.symm, hW.below⟩
      · intro hc3
        replace hc3 := of_decide_eq_false hc3
        refine l_val (r_pick (v := .bool _) rfl rfl rfl) rfl rfl ?_
        refine l_val (r_move (v := .bool _) rfl rfl) rfl rfl ?_
        refine l_valG (r_move (v := .int _ _) rfl rfl) (by kernel_rfl) rfl ?_
        refine l_valG (r_move (v := .int _ _) rfl rfl) (by kernel_rfl) rfl ?_
        refine l_valG (r_gtr rfl rfl rfl rfl) (by kernel_rfl) rfl ?_
        refine l_split ?_ ?_
        · intro hc4
          replace hc4 := of_decide_eq_true hc4
          refine l_val (r_pick (v := .bool _) rfl rfl rfl) rfl rfl ?_
          refine l_end ?_
          refine n_then ?_
          refine c_true rfl ?_
          refine c_seq ?_
          refine c_reg ?_
          refine l_val (r_assign (v := .int _ _) rfl rfl) rfl rfl ?_
          refine l_val (r_assign (v := .int _ _) rfl rfl) rfl rfl ?_
          refine l_end ?_
          refine n_then ?_
          refine c_ret ?_
          refine r_then ?_
          refine ret_tmp2 rfl rfl rfl ?_
          exact ⟨ret_ii (rounds_bad (by omega)).1.symm (rounds_bad (by omega)).2.symm, hW.below⟩
        · intro hc4
          replace hc4 := of_decide_eq_false hc4
          refine l_val (r_pick (v := .bool _) rfl rfl rfl) rfl rfl ?_
          refine l_end ?_
          refine n_then ?_
          refine c_false rfl ?_
          refine c_skip ?_
          refine n_then ?_
          refine c_seq ?_
          refine c_reg ?_
          refine l_val (r_assign (v := .int _ _) rfl rfl) rfl rfl ?_
          refine l_end ?_
          refine n_then ?_
          refine c_seq ?_
          refine c_block ?_
          refine c_loop (fun (c : Nat) (j : Nat → Value) => [.int .i64 u, .int .i64 p, j 2, j 3, .int .i64 0, .int .i64 0, .int .i64 (c : Int), .int .i64 u, .bool false, .bool false, .int .i64 u, .bool false, .bool false, .bool false, .int .i64 p, .bool false, .bool false, .bool false, .int .i64 p, .int .i64 u, .bool false, .bool false, j 22, j 23, j 24, j 25, j 26, j 27, j 28, j 29, j 30, j 31]) (fun (c : Nat) => []) (fun (c : Nat) => c ≤ clog u) (fun (c : Nat) => clog u - c) 0 (by kernel_rfl) hW (by omega) ?_
          intro c j W hx hW
          have h6 := clog_le u
          have hp := p2_le (n := c) (by omega)
          refine c_seq ?_
          refine c_seq ?_
          refine c_reg ?_
          refine l_val (r_move (v := .int _ _) rfl rfl) rfl rfl ?_
          refine l_val (r_shlN (m := 1) (n := c) (r := p2 c) rfl rfl rfl (by omega) (by rw [p2_pow]; omega) (by omega)) rfl rfl ?_
          refine l_val (r_move (v := .int _ _) rfl rfl) rfl rfl ?_
          refine l_val (r_lss rfl rfl rfl rfl) rfl rfl ?_
          refine l_split ?_ ?_
          · intro hc5
            replace hc5 := of_decide_eq_true hc5
            have hlt := clog_lt (c := c) (by omega) (by omega) hc5
            refine l_end ?_
            refine n_then ?_
            refine c_true rfl ?_
            refine c_skip ?_
            refine n_then ?_
            refine c_block ?_
            refine c_reg ?_
            refine l_val (r_move (v := .int _ _) rfl rfl) rfl rfl ?_
            refine l_val (r_addN (n := 1) rfl rfl rfl (by omega)) rfl rfl ?_
            refine l_val (r_assign (v := .int _ _) rfl rfl) rfl rfl ?_
            refine l_end ?_
            refine n_block ?_
            refine n_then ?_
            exact loop_next (c + 1) (by kernel_rfl) hW hlt (by omega)
          · intro hc5
            replace hc5 := of_decide_eq_false hc5
            obtain rfl := clog_ge hx hc5
            have hfit := rounds_fit (u := u) (p := p) (by omega)
            refine l_end ?_
            refine n_then ?_
            refine c_false rfl ?_
            refine c_exit ?_
            refine x_then ?_
            refine x_then ?_
            refine x_hit ?_
            refine n_then ?_
            refine c_seq ?_
            refine c_reg ?_
            refine l_val (r_move (v := .int _ _) rfl rfl) rfl rfl ?_
            refine l_val (r_move (v := .int _ _) rfl rfl) rfl rfl ?_
            refine l_val (r_addN (m := 1) rfl rfl rfl (by omega)) rfl rfl ?_
            refine l_val (r_mulZ rfl rfl rfl hfit) rfl rfl ?_
            refine l_val (r_assign (v := .int _ _) rfl rfl) rfl rfl ?_
            refine l_val (r_assign (v := .int _ _) rfl rfl) rfl rfl ?_
            refine l_end ?_
            refine n_then ?_
            refine c_ret ?_
            refine ret_tmp2 rfl rfl rfl ?_
            exact ⟨ret_ii (rounds_ok (by omega)).1.symm (rounds_ok (by omega)).2.symm, hW.below⟩

set_option maxRecDepth 10000 in
/-- headend/headendref08.Rounds -/
theorem g_rRounds (u p : Int) : Gives Try.prog 8 [.int .i64 u, .int .i64 p].toArray (.tuple #[.int .i64 (roundsV u p), .int .i64 (roundsE u p)]) := by
  refine gives_of Try.func8 rfl (bs := [.int .i64 u, .int .i64 p, undef, undef, undef, undef, undef, undef, undef, undef, undef, undef, undef, undef, undef, undef, undef, undef, undef, undef, undef, undef, undef, undef, undef, undef, undef, undef, undef, undef, undef, undef, undef, undef]) rfl ?_
  intro w hW
  refine c_seq ?_
  refine c_reg ?_
  refine l_val (r_assign (v := .int _ _) rfl rfl) rfl rfl ?_
  refine l_val (r_assign (v := .int _ _) rfl rfl) rfl rfl ?_
  refine l_end ?_
  refine n_then ?_
  refine c_seq ?_
  refine c_seq ?_
  refine c_reg ?_
  refine l_val (r_move (v := .int _ _) rfl rfl) rfl rfl ?_
  refine l_val (r_lss rfl rfl rfl rfl) rfl rfl ?_
  refine l_split ?_ ?_
  · intro hc1
    replace hc1 := of_decide_eq_true hc1
    refine l_val (r_move (v := .bool _) rfl rfl) rfl rfl ?_
    refine l_not (by kernel_rfl) rfl ?_
    refine l_not (by kernel_rfl) rfl ?_
    refine l_val (r_pick (v := .bool _) rfl rfl rfl) rfl rfl ?_
    refine l_val (r_move (v := .bool _) rfl rfl) rfl rfl ?_
    refine l_not (by kernel_rfl) rfl ?_
    refine l_not (by kernel_rfl) rfl ?_
    refine l_val (r_pick (v := .bool _) rfl rfl rfl) rfl rfl ?_
    refine l_val (r_move (v := .bool _) rfl rfl) rfl rfl ?_
    refine l_not (by kernel_rfl) rfl ?_
    refine l_not (by kernel_rfl) rfl ?_
    refine l_not (by kernel_rfl) rfl ?_
    refine l_val (r_pick (v := .bool _) rfl rfl rfl) rfl rfl ?_
    refine l_end ?_
    refine n_then ?_
    refine c_true rfl ?_
    refine c_seq ?_
    refine c_reg ?_
    refine l_val (r_assign (v := .int _ _) rfl rfl) rfl rfl ?_
    refine l_val (r_assign (v := .int _ _) rfl rfl) rfl rfl ?_
    refine l_end ?_
    refine n_then ?_
    refine c_ret ?_
    refine r_then ?_
    refine ret_tmp2 rfl rfl rfl ?_
    exact ⟨ret_ii (rounds_bad (by omega)).1.symm (rounds_bad (by omega)).2.symm, hW.below⟩
  · intro hc1
    replace hc1 := of_decide_eq_false hc1
    refine l_val (r_move (v := .bool _) rfl rfl) rfl rfl ?_
    refine l_valG (r_move (v := .int _ _) rfl rfl) (by kernel_rfl) rfl ?_
    refine l_valG (r_gtr rfl rfl rfl rfl) (by kernel_rfl) rfl ?_
    refine l_split ?_ ?_
    · intro hc2
      replace hc2 := of_decide_eq_true hc2
      refine l_val (r_pick (v := .bool _) rfl rfl rfl) rfl rfl ?_
      refine l_val (r_move (v := .bool _) rfl rfl) rfl rfl ?_
      refine l_not (by kernel_rfl) rfl ?_
      refine l_not (by kernel_rfl) rfl ?_
      refine l_val (r_pick (v := .bool _) rfl rfl rfl) rfl rfl ?_
      refine l_val (r_move (v := .bool _) rfl rfl) rfl rfl ?_
      refine l_not (by kernel_rfl) rfl ?_
      refine l_not (by kernel_rfl) rfl ?_
      refine l_not (by kernel_rfl) rfl ?_
      refine l_val (r_pick (v := .bool _) rfl rfl rfl) rfl rfl ?_
      refine l_end ?_
      refine n_then ?_
      refine c_true rfl ?_
      refine c_seq ?_
      refine c_reg ?_
      refine l_val (r_assign (v := .int _ _) rfl rfl) rfl rfl ?_
      refine l_val (r_assign (v := .int _ _) rfl rfl) rfl rfl ?_
      refine l_end ?_
      refine n_then ?_
      refine c_ret ?_
      refine r_then ?_
      refine ret_tmp2 rfl rfl rfl ?_
      exact ⟨ret_ii (rounds_bad (by omega)).1.symm (rounds_bad (by omega)).2.symm, hW.below⟩
    · intro hc2
      replace hc2 := of_decide_eq_false hc2
      refine l_val (r_pick (v := .bool _) rfl rfl rfl) rfl rfl ?_
      refine l_val (r_move (v := .bool _) rfl rfl) rfl rfl ?_
      refine l_valG (r_move (v := .int _ _) rfl rfl) (by kernel_rfl) rfl ?_
      refine l_valG (r_lss rfl rfl rfl rfl) (by kernel_rfl) rfl ?_
      refine l_split ?_ ?_
      · intro hc3
        replace hc3 := of_decide_eq_true hc3
        refine l_val (r_pick (v := .bool _) rfl rfl rfl) rfl rfl ?_
        refine l_val (r_move (v := .bool _) rfl rfl) rfl rfl ?_
        refine l_not (by kernel_rfl) rfl ?_
        refine l_not (by kernel_rfl) rfl ?_
        refine l_not (by kernel_rfl) rfl ?_
        refine l_val (r_pick (v := .bool _) rfl rfl rfl) rfl rfl ?_
        refine l_end ?_
        refine n_then ?_
        refine c_true rfl ?_
        refine c_seq ?_
        refine c_reg ?_
        refine l_val (r_assign (v := .int _ _) rfl rfl) rfl rfl ?_
        refine l_val (r_assign (v := .int _ _) rfl rfl) rfl rfl ?_
        refine l_end ?_
        refine n_then ?_
        refine c_ret ?_
        refine r_then ?_
        refine ret_tmp2 rfl rfl rfl ?_
        exact ⟨ret_ii (rounds_bad (by omega)).1.symm (rounds_bad (by omega)).2.symm, hW.below⟩
      · intro hc3
        replace hc3 := of_decide_eq_false hc3
        refine l_val (r_pick (v := .bool _) rfl rfl rfl) rfl rfl ?_
        refine l_val (r_move (v := .bool _) rfl rfl) rfl rfl ?_
        refine l_valG (r_move (v := .int _ _) rfl rfl) (by kernel_rfl) rfl ?_
        refine l_valG (r_move (v := .int _ _) rfl rfl) (by kernel_rfl) rfl ?_
        refine l_valG (r_gtr rfl rfl rfl rfl) (by kernel_rfl) rfl ?_
        refine l_split ?_ ?_
        · intro hc4
          replace hc4 := of_decide_eq_true hc4
          refine l_val (r_pick (v := .bool _) rfl rfl rfl) rfl rfl ?_
          refine l_end ?_
          refine n_then ?_
          refine c_true rfl ?_
          refine c_seq ?_
          refine c_reg ?_
          refine l_val (r_assign (v := .int _ _) rfl rfl) rfl rfl ?_
          refine l_val (r_assign (v := .int _ _) rfl rfl) rfl rfl ?_
          refine l_end ?_
          refine n_then ?_
          refine c_ret ?_
          refine r_then ?_
          refine ret_tmp2 rfl rfl rfl ?_
          exact ⟨ret_ii (rounds_bad (by omega)).1.symm (rounds_bad (by omega)).2.symm, hW.below⟩
        · intro hc4
          replace hc4 := of_decide_eq_false hc4
          refine l_val (r_pick (v := .bool _) rfl rfl rfl) rfl rfl ?_
          refine l_end ?_
          refine n_then ?_
          refine c_false rfl ?_
          refine c_skip ?_
          refine n_then ?_
          refine c_seq ?_
          refine c_reg ?_
          refine l_val (r_assign (v := .int _ _) rfl rfl) rfl rfl ?_
          refine l_end ?_
          refine n_then ?_
          refine c_seq ?_
          refine c_seq ?_
          refine c_reg ?_
          refine l_val (r_assign (v := .int _ _) rfl rfl) rfl rfl ?_
          refine l_end ?_
          refine n_then ?_
          refine c_block ?_
          refine c_loop (fun (c : Nat) (j : Nat → Value) => [.int .i64 u, .int .i64 p, j 2, j 3, .int .i64 0, .int .i64 0, .int .i64 (c : Int), .int .i64 ((p2 c : Nat) : Int), .int .i64 u, .bool false, .bool false, .int .i64 u, .bool false, .bool false, .bool false, .int .i64 p, .bool false, .bool false, .bool false, .int .i64 p, .int .i64 u, .bool false, .bool false, j 23, j 24, j 25, j 26, j 27, j 28, j 29, j 30, j 31, j 32, j 33]) (fun (c : Nat) => []) (fun (c : Nat) => c ≤ clog u) (fun (c : Nat) => clog u - c) 0 (by kernel_rfl) hW (by omega) ?_
          intro c j W hx hW
          have h6 := clog_le u
          have hp := p2_le (n := c) (by omega)
          refine c_seq ?_
          refine c_seq ?_
          refine c_reg ?_
          refine l_val (r_move (v := .int _ _) rfl rfl) rfl rfl ?_
          refine l_val (r_move (v := .int _ _) rfl rfl) rfl rfl ?_
          refine l_val (r_lss rfl rfl rfl rfl) rfl rfl ?_
          refine l_split ?_ ?_
          · intro hc5
            replace hc5 := of_decide_eq_true hc5
            have hlt := clog_lt (c := c) (by omega) (by omega) hc5
            refine l_end ?_
            refine n_then ?_
            refine c_true rfl ?_
            refine c_skip ?_
            refine n_then ?_
            refine c_seq ?_
            refine c_block ?_
            refine c_reg ?_
            refine l_val (r_move (v := .int _ _) rfl rfl) rfl rfl ?_
            refine l_val (r_addN (n := 1) rfl rfl rfl (by omega)) rfl rfl ?_
            refine l_val (r_assign (v := .int _ _) rfl rfl) rfl rfl ?_
            refine l_end ?_
            refine n_block ?_
            refine n_then ?_
            refine c_reg ?_
            refine l_val (r_move (v := .int _ _) rfl rfl) rfl rfl ?_
            refine l_val (r_mulN (m := 2) rfl rfl rfl (by omega)) rfl rfl ?_
            refine l_val (r_assign (v := .int _ _) rfl rfl) rfl rfl ?_
            refine l_end ?_
            refine n_then ?_
            exact loop_next (c + 1) (by kernel_rfl) hW hlt (by omega)
          · intro hc5
            replace hc5 := of_decide_eq_false hc5
            obtain rfl := clog_ge hx hc5
            have hfit := rounds_fit (u := u) (p := p) (by omega)
            refine l_end ?_
            refine n_then ?_
            refine c_false rfl ?_
            refine c_exit ?_
            refine x_then ?_
            refine x_then ?_
            refine x_hit ?_
            refine n_then ?_
            refine c_seq ?_
            refine c_reg ?_
            refine l_val (r_move (v := .int _ _) rfl rfl) rfl rfl ?_
            refine l_val (r_move (v := .int _ _) rfl rfl) rfl rfl ?_
            refine l_val (r_addN (m := 1) rfl rfl rfl (by omega)) rfl rfl ?_
            refine l_val (r_mulZ rfl rfl rfl hfit) rfl rfl ?_
            refine l_val (r_assign (v := .int _ _) rfl rfl) rfl rfl ?_
            refine l_val (r_assign (v := .int _ _) rfl rfl) rfl rfl ?_
            refine l_end ?_
            refine n_then ?_
            refine c_ret ?_
            refine ret_tmp2 rfl rfl rfl ?_
            exact ⟨ret_ii (rounds_ok (by omega)).1.symm (rounds_ok (by omega)).2.symm, hW.below⟩

end Go.Proofs.Ytoegpalacppllaa
