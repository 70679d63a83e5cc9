/- Whether a scheme is valid. -/
import Derived.Test.YtoegpalacppllaaFacts
import Derived.Test.YtoegpalacppllaaVals
import Derived.Test.YtoegpalacppllaaC9
import Derived.Test.YtoegpalacppllaaTv
namespace Go.Proofs.Ytoegpalacppllaa
open Go.RowKit Pl
open Tr Hn
set_option maxRecDepth 10000 in
/-- headend/cover.treeOf -/
theorem g_treeOf (s : Sc) : Gives Try.prog 67 [.agg [.int .u8 s.k, .int .i64 s.d, .int .i64 s.g, .int .u64 s.p, .int .u64 s.q, .int .u64 s.r].toArray].toArray (.tuple #[.agg (treeC s).toArray, .bool (schB s)]) := by
  refine gives_of Try.func67 rfl (bs := [.agg [.int .u8 s.k, .int .i64 s.d, .int .i64 s.g, .int .u64 s.p, .int .u64 s.q, .int .u64 s.r].toArray, undef, undef, undef, undef, undef, undef, undef, undef, undef, undef, undef, undef, undef, undef, undef, undef, undef, undef, undef, undef, undef, undef, undef, undef, undef, undef, undef, undef, undef, undef, undef, undef, undef, undef, undef, undef, undef, undef, undef, undef, undef, undef, undef, undef, undef, undef, undef, undef, undef, undef]) rfl ?_
  intro w hW
  refine c_seq ?_
  refine c_reg ?_
  refine l_box hW rfl rfl rfl rfl ?_
  intro g1 W hW
  refine l_alloc hW tyZ124 rfl rfl rfl ?_
  intro g2 W hW
  refine l_val (r_assign (v := .bool _) rfl rfl) rfl rfl ?_
  refine l_end ?_
  refine n_then ?_
  refine c_seq ?_
  refine c_seq ?_
  refine c_reg ?_
  refine l_val (r_fieldAddr 0 Try.underlying26 rfl tyC5.size rfl rfl rfl) rfl rfl ?_
  refine l_loadC hW 1 tyC5 rfl rfl rfl rfl rfl rfl ?_
  refine l_val (r_lss rfl rfl rfl rfl) rfl rfl ?_
  refine l_split ?_ ?_
  · intro hc1
    replace hc1 := of_decide_eq_true hc1
    refine l_val (r_move (v := .bool _) rfl rfl) rfl rfl ?_
    refine l_not (by kernel_rfl) rfl ?_
    refine l_not (by kernel_rfl) rfl ?_
    refine l_not (by kernel_rfl) rfl ?_
    refine l_val (r_pick (v := .bool _) rfl rfl rfl) rfl rfl ?_
    refine l_val (r_move (v := .bool _) rfl rfl) rfl rfl ?_
    refine l_not (by kernel_rfl) rfl ?_
    refine l_not (by kernel_rfl) rfl ?_
    refine l_not (by kernel_rfl) rfl ?_
    refine l_val (r_pick (v := .bool _) rfl rfl rfl) rfl rfl ?_
    refine l_val (r_move (v := .bool _) rfl rfl) rfl rfl ?_
    refine l_not (by kernel_rfl) rfl ?_
    refine l_not (by kernel_rfl) rfl ?_
    refine l_not (by kernel_rfl) rfl ?_
    refine l_val (r_pick (v := .bool _) rfl rfl rfl) rfl rfl ?_
    refine l_val (r_move (v := .bool _) rfl rfl) rfl rfl ?_
    refine l_not (by kernel_rfl) rfl ?_
    refine l_not (by kernel_rfl) rfl ?_
    refine l_not (by kernel_rfl) rfl ?_
    refine l_not (by kernel_rfl) rfl ?_
    refine l_not (by kernel_rfl) rfl ?_
    refine l_not (by kernel_rfl) rfl ?_
    refine l_not (by kernel_rfl) rfl ?_
    refine l_val (r_pick (v := .bool _) rfl rfl rfl) rfl rfl ?_
    refine l_end ?_
    refine n_then ?_
    refine c_true rfl ?_
    refine c_seq ?_
    refine c_reg ?_
    refine l_val (r_build (ps := []) (bld124_) rfl rfl) rfl rfl ?_
    refine l_storeA hW 0 tyA124 rfl rfl rfl rfl rfl rfl (by first | rfl | exact kc_len _ | exact kcf_len _ | (simp; done)) (by first | rfl | exact kc_len _ | exact kcf_len _ | (simp; done)) (by first | exact kc_one _ | exact kcf_one _ | (simp [Value.oneCell']; done)) ?_
    intro W hW
    refine l_val (r_assign (v := .bool _) rfl rfl) rfl rfl ?_
    refine l_end ?_
    refine n_then ?_
    refine c_ret ?_
    refine r_then ?_
    refine ret_cell_tmp hW 0 tyA124 rfl rfl rfl (by first | rfl | exact kc_len _ | exact kcf_len _ | (simp; done)) rfl ?_
    exact ⟨by rw [treeC_no (schB_no (by omega)), schB_no (by omega)]; rfl, hW.below⟩
  · intro hc1
    replace hc1 := of_decide_eq_false hc1
    refine l_val (r_move (v := .bool _) rfl rfl) rfl rfl ?_
    refine l_valG (r_fieldAddr 0 Try.underlying26 rfl tyC5.size rfl rfl rfl) (by kernel_rfl) rfl ?_
    refine l_loadCG hW 1 tyC5 (by kernel_rfl) rfl rfl rfl rfl rfl ?_
    refine l_valG (r_gtr rfl rfl rfl rfl) (by kernel_rfl) rfl ?_
    refine l_split ?_ ?_
    · intro hc2
      replace hc2 := of_decide_eq_true hc2
      refine l_val (r_pick (v := .bool _) rfl rfl rfl) rfl rfl ?_
      refine l_val (r_move (v := .bool _) rfl rfl) rfl rfl ?_
      refine l_not (by kernel_rfl) rfl ?_
      refine l_not (by kernel_rfl) rfl ?_
      refine l_not (by kernel_rfl) rfl ?_
      refine l_val (r_pick (v := .bool _) rfl rfl rfl) rfl rfl ?_
      refine l_val (r_move (v := .bool _) rfl rfl) rfl rfl ?_
      refine l_not (by kernel_rfl) rfl ?_
      refine l_not (by kernel_rfl) rfl ?_
      refine l_not (by kernel_rfl) rfl ?_
      refine l_val (r_pick (v := .bool _) rfl rfl rfl) rfl rfl ?_
      refine l_val (r_move (v := .bool _) rfl rfl) rfl rfl ?_
      refine l_not (by kernel_rfl) rfl ?_
      refine l_not (by kernel_rfl) rfl ?_
      refine l_not (by kernel_rfl) rfl ?_
      refine l_not (by kernel_rfl) rfl ?_
      refine l_not (by kernel_rfl) rfl ?_
      refine l_not (by kernel_rfl) rfl ?_
      refine l_not (by kernel_rfl) rfl ?_
      refine l_val (r_pick (v := .bool _) rfl rfl rfl) rfl rfl ?_
      refine l_end ?_
      refine n_then ?_
      refine c_true rfl ?_
      refine c_seq ?_
      refine c_reg ?_
      refine l_val (r_build (ps := []) (bld124_) rfl rfl) rfl rfl ?_
      refine l_storeA hW 0 tyA124 rfl rfl rfl rfl rfl rfl (by first | rfl | exact kc_len _ | exact kcf_len _ | (simp; done)) (by first | rfl | exact kc_len _ | exact kcf_len _ | (simp; done)) (by first | exact kc_one _ | exact kcf_one _ | (simp [Value.oneCell']; done)) ?_
      intro W hW
      refine l_val (r_assign (v := .bool _) rfl rfl) rfl rfl ?_
      refine l_end ?_
      refine n_then ?_
      refine c_ret ?_
      refine r_then ?_
      refine ret_cell_tmp hW 0 tyA124 rfl rfl rfl (by first | rfl | exact kc_len _ | exact kcf_len _ | (simp; done)) rfl ?_
      exact ⟨by rw [treeC_no (schB_no (by omega)), schB_no (by omega)]; rfl, hW.below⟩
    · intro hc2
      replace hc2 := of_decide_eq_false hc2
      refine l_val (r_pick (v := .bool _) rfl rfl rfl) rfl rfl ?_
      refine l_val (r_move (v := .bool _) rfl rfl) rfl rfl ?_
      refine l_valG (r_fieldAddr 1 Try.underlying26 rfl tyC3.size rfl rfl rfl) (by kernel_rfl) rfl ?_
      refine l_loadCG hW 1 tyC3 (by kernel_rfl) rfl rfl rfl rfl rfl ?_
      refine l_valG (r_lss rfl rfl rfl rfl) (by kernel_rfl) rfl ?_
      refine l_split ?_ ?_
      · intro hc3
        replace hc3 := of_decide_eq_true hc3
        refine l_val (r_pick (v := .bool _) rfl rfl rfl) rfl rfl ?_
        refine l_val (r_move (v := .bool _) rfl rfl) rfl rfl ?_
        refine l_not (by kernel_rfl) rfl ?_
        refine l_not (by kernel_rfl) rfl ?_
        refine l_not (by kernel_rfl) rfl ?_
        refine l_val (r_pick (v := .bool _) rfl rfl rfl) rfl rfl ?_
        refine l_val (r_move (v := .bool _) rfl rfl) rfl rfl ?_
        refine l_not (by kernel_rfl) rfl ?_
        refine l_not (by kernel_rfl) rfl ?_
        refine l_not (by kernel_rfl) rfl ?_
        refine l_not (by kernel_rfl) rfl ?_
        refine l_not (by kernel_rfl) rfl ?_
        refine l_not (by kernel_rfl) rfl ?_
        refine l_not (by kernel_rfl) rfl ?_
        refine l_val (r_pick (v := .bool _) rfl rfl rfl) rfl rfl ?_
        refine l_end ?_
        refine n_then ?_
        refine c_true rfl ?_
        refine c_seq ?_
        refine c_reg ?_
        refine l_val (r_build (ps := []) (bld124_) rfl rfl) rfl rfl ?_
        refine l_storeA hW 0 tyA124 rfl rfl rfl rfl rfl rfl (by first | rfl | exact kc_len _ | exact kcf_len _ | (simp; done)) (by first | rfl | exact kc_len _ | exact kcf_len _ | (simp; done)) (by first | exact kc_one _ | exact kcf_one _ | (simp [Value.oneCell']; done)) ?_
        intro W hW
        refine l_val (r_assign (v := .bool _) rfl rfl) rfl rfl ?_
        refine l_end ?_
        refine n_then ?_
        refine c_ret ?_
        refine r_then ?_
        refine ret_cell_tmp hW 0 tyA124 rfl rfl rfl (by first | rfl | exact kc_len _ | exact kcf_len _ | (simp; done)) rfl ?_
        exact ⟨by rw [treeC_no (schB_no (by omega)), schB_no (by omega)]; rfl, hW.below⟩
      · intro hc3
        replace hc3 := of_decide_eq_false hc3
        refine l_val (r_pick (v := .bool _) rfl rfl rfl) rfl rfl ?_
        refine l_val (r_move (v := .bool _) rfl rfl) rfl rfl ?_
        refine l_valG (r_fieldAddr 1 Try.underlying26 rfl tyC3.size rfl rfl rfl) (by kernel_rfl) rfl ?_
        refine l_loadCG hW 1 tyC3 (by kernel_rfl) rfl rfl rfl rfl rfl ?_
        refine l_valG (r_gtr rfl rfl rfl rfl) (by kernel_rfl) rfl ?_
        refine l_split ?_ ?_
        · intro hc4
          replace hc4 := of_decide_eq_true hc4
          refine l_val (r_pick (v := .bool _) rfl rfl rfl) rfl rfl ?_
          refine l_val (r_move (v := .bool _) rfl rfl) rfl rfl ?_
          refine l_not (by kernel_rfl) rfl ?_
          refine l_not (by kernel_rfl) rfl ?_
          refine l_not (by kernel_rfl) rfl ?_
          refine l_not (by kernel_rfl) rfl ?_
          refine l_not (by kernel_rfl) rfl ?_
          refine l_not (by kernel_rfl) rfl ?_
          refine l_not (by kernel_rfl) rfl ?_
          refine l_val (r_pick (v := .bool _) rfl rfl rfl) rfl rfl ?_
          refine l_end ?_
          refine n_then ?_
          refine c_true rfl ?_
          refine c_seq ?_
          refine c_reg ?_
          refine l_val (r_build (ps := []) (bld124_) rfl rfl) rfl rfl ?_
          refine l_storeA hW 0 tyA124 rfl rfl rfl rfl rfl rfl (by first | rfl | exact kc_len _ | exact kcf_len _ | (simp; done)) (by first | rfl | exact kc_len _ | exact kcf_len _ | (simp; done)) (by first | exact kc_one _ | exact kcf_one _ | (simp [Value.oneCell']; done)) ?_
          intro W hW
          refine l_val (r_assign (v := .bool _) rfl rfl) rfl rfl ?_
          refine l_end ?_
          refine n_then ?_
          refine c_ret ?_
          refine r_then ?_
          refine ret_cell_tmp hW 0 tyA124 rfl rfl rfl (by first | rfl | exact kc_len _ | exact kcf_len _ | (simp; done)) rfl ?_
          exact ⟨by rw [treeC_no (schB_no (by omega)), schB_no (by omega)]; rfl, hW.below⟩
        · intro hc4
          replace hc4 := of_decide_eq_false hc4
          refine l_val (r_pick (v := .bool _) rfl rfl rfl) rfl rfl ?_
          refine l_val (r_move (v := .bool _) rfl rfl) rfl rfl ?_
          refine l_loadAG hW 1 tyA26 (by kernel_rfl) rfl rfl rfl rfl (by first | rfl | exact kc_len _ | exact kcf_len _ | (simp; done)) ?_
          refine l_valG (r_fieldAddr 0 Try.underlying26 rfl tyC5.size rfl rfl rfl) (by kernel_rfl) rfl ?_
          refine l_loadCG hW 1 tyC5 (by kernel_rfl) rfl rfl rfl rfl rfl ?_
          refine l_valG (r_fieldAddr 1 Try.underlying26 rfl tyC3.size rfl rfl rfl) (by kernel_rfl) rfl ?_
          refine l_loadCG hW 1 tyC3 (by kernel_rfl) rfl rfl rfl rfl rfl ?_
          refine l_valG (r_build (ps := [(0, .int _ _), (1, .int _ _)]) (bld26_0_1 _ _) rfl rfl) (by kernel_rfl) rfl ?_
          refine l_valG (r_neqS gd26 (eqS26 _ _ _ _ _ _ _ _ _ _ _ _) rfl rfl rfl rfl) (by kernel_rfl) rfl ?_
          refine l_split ?_ ?_
          · intro hc5
            replace hc5 := of_decide_eq_true hc5
            refine l_val (r_pick (v := .bool _) rfl rfl rfl) rfl rfl ?_
            refine l_end ?_
            refine n_then ?_
            refine c_true rfl ?_
            refine c_seq ?_
            refine c_reg ?_
            refine l_val (r_build (ps := []) (bld124_) rfl rfl) rfl rfl ?_
            refine l_storeA hW 0 tyA124 rfl rfl rfl rfl rfl rfl (by first | rfl | exact kc_len _ | exact kcf_len _ | (simp; done)) (by first | rfl | exact kc_len _ | exact kcf_len _ | (simp; done)) (by first | exact kc_one _ | exact kcf_one _ | (simp [Value.oneCell']; done)) ?_
            intro W hW
            refine l_val (r_assign (v := .bool _) rfl rfl) rfl rfl ?_
            refine l_end ?_
            refine n_then ?_
            refine c_ret ?_
            refine r_then ?_
            refine ret_cell_tmp hW 0 tyA124 rfl rfl rfl (by first | rfl | exact kc_len _ | exact kcf_len _ | (simp; done)) rfl ?_
            exact ⟨by rw [treeC_no (schB_no (by omega)), schB_no (by omega)]; rfl, hW.below⟩
          · intro hc5
            replace hc5 := of_decide_eq_false hc5
            refine l_val (r_pick (v := .bool _) rfl rfl rfl) rfl rfl ?_
            refine l_end ?_
            refine n_then ?_
            refine c_false rfl ?_
            refine c_skip ?_
            refine n_then ?_
            refine c_seq ?_
            refine c_reg ?_
            refine l_val (r_fieldAddr 0 Try.underlying26 rfl tyC5.size rfl rfl rfl) rfl rfl ?_
            refine l_loadC hW 1 tyC5 rfl rfl rfl rfl rfl rfl ?_
            refine l_val (r_fieldAddr 1 Try.underlying26 rfl tyC3.size rfl rfl rfl) rfl rfl ?_
            refine l_loadC hW 1 tyC3 rfl rfl rfl rfl rfl rfl ?_
            refine l_val (r_build (ps := [(0, .int _ _), (1, .int _ _), (2, .int _ _)]) (bld124_0_1_2 _ _ _) rfl rfl) rfl rfl ?_
            refine l_alloc hW tyZ124 rfl rfl rfl ?_
            intro g3 W hW
            refine l_storeA hW 0 tyA124 rfl rfl rfl rfl rfl rfl (by first | rfl | exact kc_len _ | exact kcf_len _ | (simp; done)) (by first | rfl | exact kc_len _ | exact kcf_len _ | (simp; done)) (by first | exact kc_one _ | exact kcf_one _ | (simp [Value.oneCell']; done)) ?_
            intro W hW
            refine l_end ?_
            refine n_then ?_
            refine c_seq ?_
            refine c_block ?_
            refine c_loop (fun (i : Nat) (j : Nat → Value) => [.agg [.int .u8 s.k, .int .i64 s.d, .int .i64 s.g, .int .u64 s.p, .int .u64 s.q, .int .u64 s.r].toArray, .pointer (some ⟨g1, 0, none⟩), .pointer (some ⟨g2, 0, none⟩), .bool false, .pointer (some ⟨g3, 0, none⟩), .pointer (some ⟨g1, 0, none⟩), .int .u8 s.k, .bool false, .bool false, .pointer (some ⟨g1, 0, none⟩), .int .u8 s.k, .bool false, .bool false, .bool false, .pointer (some ⟨g1, 1, none⟩), .int .i64 s.d, .bool false, .bool false, .bool false, .pointer (some ⟨g1, 1, none⟩), .int .i64 s.d, .bool false, .bool false, .bool false, .agg ([.int .u8 s.k, .int .i64 s.d, .int .i64 s.g, .int .u64 s.p, .int .u64 s.q, .int .u64 s.r]).toArray, .pointer (some ⟨g1, 0, none⟩), .int .u8 s.k, .pointer (some ⟨g1, 1, none⟩), .int .i64 s.d, .agg ([.int .u8 s.k, .int .i64 s.d, .int .i64 0, .int .u64 0, .int .u64 0, .int .u64 0]).toArray, .bool false, .bool false, j 32, .pointer (some ⟨g1, 0, none⟩), .int .u8 s.k, .pointer (some ⟨g1, 1, none⟩), .int .i64 s.d, .agg ([.int .u8 s.k, .int .i64 s.d, .int .i64 1]).toArray, j 38, j 39, j 40, j 41, j 42, j 43, j 44, j 45, j 46, j 47, j 48, j 49, j 50]) (fun (i : Nat) => [⟨g3, [.int .u8 s.k, .int .i64 s.d, .int .i64 (i : Int)], 124⟩, ⟨g2, z124, 124⟩, ⟨g1, [.int .u8 s.k, .int .i64 s.d, .int .i64 s.g, .int .u64 s.p, .int .u64 s.q, .int .u64 s.r], 26⟩]) (fun (i : Nat) => i = 1 ∨ i = 2 ∧ 1 < s.d ∨ i = 3 ∧ 4 < s.d) (fun (i : Nat) => 3 - i) 1 (by kernel_rfl) hW (.inl rfl) ?_
            intro i j W hx hW
            rcases hx with rfl | ⟨rfl, hx⟩ | ⟨rfl, hx⟩
            · skip
              refine c_seq ?_
              refine c_seq ?_
              refine c_reg ?_
              refine l_val (r_fieldAddr 2 Try.underlying124 rfl tyC3.size rfl rfl rfl) rfl rfl ?_
              refine l_loadC hW 0 tyC3 rfl rfl rfl rfl rfl rfl ?_
              refine l_val (r_fieldAddr 2 Try.underlying124 rfl tyC3.size rfl rfl rfl) rfl rfl ?_
              refine l_loadC hW 0 tyC3 rfl rfl rfl rfl rfl rfl ?_
              refine l_val (r_mulN rfl rfl rfl (by omega)) rfl rfl ?_
              refine l_val (r_fieldAddr 1 Try.underlying124 rfl tyC3.size rfl rfl rfl) rfl rfl ?_
              refine l_loadC hW 0 tyC3 rfl rfl rfl rfl rfl rfl ?_
              refine l_val (r_lss rfl rfl rfl rfl) rfl rfl ?_
              refine l_split ?_ ?_
              · intro hc6
                replace hc6 := of_decide_eq_true hc6
                refine l_end ?_
                refine n_then ?_
                refine c_true rfl ?_
                refine c_skip ?_
                refine n_then ?_
                refine c_block ?_
                refine c_reg ?_
                refine l_val (r_fieldAddr 2 Try.underlying124 rfl tyC3.size rfl rfl rfl) rfl rfl ?_
                refine l_loadC hW 0 tyC3 rfl rfl rfl rfl rfl rfl ?_
                refine l_val (r_addN (n := 1) rfl rfl rfl (by omega)) rfl rfl ?_
                refine l_val (r_fieldAddr 2 Try.underlying124 rfl tyC3.size rfl rfl rfl) rfl rfl ?_
                refine l_storeC hW 0 tyC3 (v := .int _ _) rfl rfl rfl rfl rfl rfl (by first | rfl | omega | (simp; done) | (simp; omega)) rfl ?_
                intro W hW
                refine l_end ?_
                refine n_block ?_
                refine n_then ?_
                exact loop_next 2 (by kernel_rfl) hW (.inr (.inl ⟨rfl, by omega⟩)) (by decide)
              · intro hc6
                replace hc6 := of_decide_eq_false hc6
                refine l_end ?_
                refine n_then ?_
                refine c_false rfl ?_
                refine c_exit ?_
                refine x_then ?_
                refine x_then ?_
                refine x_hit ?_
                refine n_then ?_
                refine c_seq ?_
                refine c_reg ?_
                refine l_loadA hW 0 tyA124 rfl rfl rfl rfl rfl (by first | rfl | exact kc_len _ | exact kcf_len _ | (simp; done)) ?_
                refine l_storeA hW 1 tyA124 rfl rfl rfl rfl rfl rfl (by first | rfl | exact kc_len _ | exact kcf_len _ | (simp; done)) (by first | rfl | exact kc_len _ | exact kcf_len _ | (simp; done)) (by first | exact kc_one _ | exact kcf_one _ | (simp [Value.oneCell']; done)) ?_
                intro W hW
                refine l_val (r_assign (v := .bool _) rfl rfl) rfl rfl ?_
                refine l_end ?_
                refine n_then ?_
                refine c_ret ?_
                refine ret_cell_tmp hW 1 tyA124 rfl rfl rfl (by first | rfl | exact kc_len _ | exact kcf_len _ | (simp; done)) rfl ?_
                first
                  | exact ⟨by rw [treeC_yes (i := 1) (schB_yes (by omega)) (by simp only [strideN]; (repeat' split) <;> omega), schB_yes (by omega)]; rfl, hW.below⟩
                  | exact ⟨by rw [treeC_yes (i := 2) (schB_yes (by omega)) (by simp only [strideN]; (repeat' split) <;> omega), schB_yes (by omega)]; rfl, hW.below⟩
                  | exact ⟨by rw [treeC_yes (i := 3) (schB_yes (by omega)) (by simp only [strideN]; (repeat' split) <;> omega), schB_yes (by omega)]; rfl, hW.below⟩
            · skip
              refine c_seq ?_
              refine c_seq ?_
              refine c_reg ?_
              refine l_val (r_fieldAddr 2 Try.underlying124 rfl tyC3.size rfl rfl rfl) rfl rfl ?_
              refine l_loadC hW 0 tyC3 rfl rfl rfl rfl rfl rfl ?_
              refine l_val (r_fieldAddr 2 Try.underlying124 rfl tyC3.size rfl rfl rfl) rfl rfl ?_
              refine l_loadC hW 0 tyC3 rfl rfl rfl rfl rfl rfl ?_
              refine l_val (r_mulN rfl rfl rfl (by omega)) rfl rfl ?_
              refine l_val (r_fieldAddr 1 Try.underlying124 rfl tyC3.size rfl rfl rfl) rfl rfl ?_
              refine l_loadC hW 0 tyC3 rfl rfl rfl rfl rfl rfl ?_
              refine l_val (r_lss rfl rfl rfl rfl) rfl rfl ?_
              refine l_split ?_ ?_
              · intro hc7
                replace hc7 := of_decide_eq_true hc7
                refine l_end ?_
                refine n_then ?_
                refine c_true rfl ?_
                refine c_skip ?_
                refine n_then ?_
                refine c_block ?_
                refine c_reg ?_
                refine l_val (r_fieldAddr 2 Try.underlying124 rfl tyC3.size rfl rfl rfl) rfl rfl ?_
                refine l_loadC hW 0 tyC3 rfl rfl rfl rfl rfl rfl ?_
                refine l_val (r_addN (n := 1) rfl rfl rfl (by omega)) rfl rfl ?_
                refine l_val (r_fieldAddr 2 Try.underlying124 rfl tyC3.size rfl rfl rfl) rfl rfl ?_
                refine l_storeC hW 0 tyC3 (v := .int _ _) rfl rfl rfl rfl rfl rfl (by first | rfl | omega | (simp; done) | (simp; omega)) rfl ?_
                intro W hW
                refine l_end ?_
                refine n_block ?_
                refine n_then ?_
                exact loop_next 3 (by kernel_rfl) hW (.inr (.inr ⟨rfl, by omega⟩)) (by decide)
              · intro hc7
                replace hc7 := of_decide_eq_false hc7
                refine l_end ?_
                refine n_then ?_
                refine c_false rfl ?_
                refine c_exit ?_
                refine x_then ?_
                refine x_then ?_
                refine x_hit ?_
                refine n_then ?_
                refine c_seq ?_
                refine c_reg ?_
                refine l_loadA hW 0 tyA124 rfl rfl rfl rfl rfl (by first | rfl | exact kc_len _ | exact kcf_len _ | (simp; done)) ?_
                refine l_storeA hW 1 tyA124 rfl rfl rfl rfl rfl rfl (by first | rfl | exact kc_len _ | exact kcf_len _ | (simp; done)) (by first | rfl | exact kc_len _ | exact kcf_len _ | (simp; done)) (by first | exact kc_one _ | exact kcf_one _ | (simp [Value.oneCell']; done)) ?_
                intro W hW
                refine l_val (r_assign (v := .bool _) rfl rfl) rfl rfl ?_
                refine l_end ?_
                refine n_then ?_
                refine c_ret ?_
                refine ret_cell_tmp hW 1 tyA124 rfl rfl rfl (by first | rfl | exact kc_len _ | exact kcf_len _ | (simp; done)) rfl ?_
                first
                  | exact ⟨by rw [treeC_yes (i := 1) (schB_yes (by omega)) (by simp only [strideN]; (repeat' split) <;> omega), schB_yes (by omega)]; rfl, hW.below⟩
                  | exact ⟨by rw [treeC_yes (i := 2) (schB_yes (by omega)) (by simp only [strideN]; (repeat' split) <;> omega), schB_yes (by omega)]; rfl, hW.below⟩
                  | exact ⟨by rw [treeC_yes (i := 3) (schB_yes (by omega)) (by simp only [strideN]; (repeat' split) <;> omega), schB_yes (by omega)]; rfl, hW.below⟩
            · skip
              refine c_seq ?_
              refine c_seq ?_
              refine c_reg ?_
              refine l_val (r_fieldAddr 2 Try.underlying124 rfl tyC3.size rfl rfl rfl) rfl rfl ?_
              refine l_loadC hW 0 tyC3 rfl rfl rfl rfl rfl rfl ?_
              refine l_val (r_fieldAddr 2 Try.underlying124 rfl tyC3.size rfl rfl rfl) rfl rfl ?_
              refine l_loadC hW 0 tyC3 rfl rfl rfl rfl rfl rfl ?_
              refine l_val (r_mulN rfl rfl rfl (by omega)) rfl rfl ?_
              refine l_val (r_fieldAddr 1 Try.underlying124 rfl tyC3.size rfl rfl rfl) rfl rfl ?_
              refine l_loadC hW 0 tyC3 rfl rfl rfl rfl rfl rfl ?_
              refine l_val (r_lss (b := false) rfl rfl rfl (decide_eq_false (by omega))) rfl rfl ?_
              refine l_end ?_
              refine n_then ?_
              refine c_false rfl ?_
              refine c_exit ?_
              refine x_then ?_
              refine x_then ?_
              refine x_hit ?_
              refine n_then ?_
              refine c_seq ?_
              refine c_reg ?_
              refine l_loadA hW 0 tyA124 rfl rfl rfl rfl rfl (by first | rfl | exact kc_len _ | exact kcf_len _ | (simp; done)) ?_
              refine l_storeA hW 1 tyA124 rfl rfl rfl rfl rfl rfl (by first | rfl | exact kc_len _ | exact kcf_len _ | (simp; done)) (by first | rfl | exact kc_len _ | exact kcf_len _ | (simp; done)) (by first | exact kc_one _ | exact kcf_one _ | (simp [Value.oneCell']; done)) ?_
              intro W hW
              refine l_val (r_assign (v := .bool _) rfl rfl) rfl rfl ?_
              refine l_end ?_
              refine n_then ?_
              refine c_ret ?_
              refine ret_cell_tmp hW 1 tyA124 rfl rfl rfl (by first | rfl | exact kc_len _ | exact kcf_len _ | (simp; done)) rfl ?_
              first
                | exact ⟨by rw [treeC_yes (i := 1) (schB_yes (by omega)) (by simp only [strideN]; (repeat' split) <;> omega), schB_yes (by omega)]; rfl, hW.below⟩
                | exact ⟨by rw [treeC_yes (i := 2) (schB_yes (by omega)) (by simp only [strideN]; (repeat' split) <;> omega), schB_yes (by omega)]; rfl, hW.below⟩
                | exact ⟨by rw [treeC_yes (i := 3) (schB_yes (by omega)) (by simp only [strideN]; (repeat' split) <;> omega), schB_yes (by omega)]; rfl, hW.below⟩

set_option maxRecDepth 10000 in
/-- headend/cover.Check -/
theorem g_Check (s : Sc) : Gives Try.prog 35 [.agg [.int .u8 s.k, .int .i64 s.d, .int .i64 s.g, .int .u64 s.p, .int .u64 s.q, .int .u64 s.r].toArray].toArray (.int .i64 (chk s)) := by
  refine gives_of Try.func35 rfl (bs := [.agg [.int .u8 s.k, .int .i64 s.d, .int .i64 s.g, .int .u64 s.p, .int .u64 s.q, .int .u64 s.r].toArray, undef, undef, undef, undef, undef, undef, undef, undef, undef, undef, undef]) rfl ?_
  intro w hW
  refine c_seq ?_
  refine c_reg ?_
  refine l_box hW rfl rfl rfl rfl ?_
  intro g1 W hW
  refine l_val (r_assign (v := .int _ _) rfl rfl) rfl rfl ?_
  refine l_end ?_
  refine n_then ?_
  refine c_seq ?_
  refine c_seq ?_
  refine c_reg ?_
  refine l_loadA hW 0 tyA26 rfl rfl rfl rfl rfl (by first | rfl | exact kc_len _ | exact kcf_len _ | (simp; done)) ?_
  refine l_call hW (g_treeOf _) en67 rfl rfl rfl rfl ?_
  intro W hW
  refine l_val (r_move (v := .tuple _) rfl rfl) rfl rfl ?_
  refine l_val (r_extract (v := .agg _) rfl rfl rfl) rfl rfl ?_
  refine l_val (r_extract (v := .bool _) rfl rfl rfl) rfl rfl ?_
  refine l_split ?_ ?_
  · intro hc1
    refine l_alloc hW tyZ124 rfl rfl rfl ?_
    intro g2 W hW
    refine l_storeA hW 0 tyA124 rfl rfl rfl rfl rfl rfl (by first | rfl | exact kc_len _ | exact kcf_len _ | (simp; done)) (by first | rfl | exact kc_len _ | exact kcf_len _ | (simp; done)) (by first | exact kc_one _ | exact kcf_one _ | (simp [Value.oneCell']; done)) ?_
    intro W hW
    refine l_val (r_assign (v := .bool _) rfl rfl) rfl rfl ?_
    refine l_end ?_
    refine n_then ?_
    refine c_seq ?_
    refine c_reg ?_
    refine l_val (r_move (v := .bool _) rfl rfl) rfl rfl ?_
    refine l_val (r_not rfl rfl) rfl rfl ?_
    refine l_end ?_
    refine n_then ?_
    refine c_false rfl ?_
    refine c_skip ?_
    refine n_then ?_
    refine c_seq ?_
    refine c_reg ?_
    refine l_val (r_assign (v := .int _ _) rfl rfl) rfl rfl ?_
    refine l_end ?_
    refine n_then ?_
    refine c_ret ?_
    refine ret_tmp (v := .int .i64 (chk s)) rfl ?_ ⟨rfl, hW.below⟩
    rw [chk_yes hc1]; rfl
  · intro hc1
    refine l_alloc hW tyZ124 rfl rfl rfl ?_
    intro g3 W hW
    refine l_storeA hW 0 tyA124 rfl rfl rfl rfl rfl rfl (by first | rfl | exact kc_len _ | exact kcf_len _ | (simp; done)) (by first | rfl | exact kc_len _ | exact kcf_len _ | (simp; done)) (by first | exact kc_one _ | exact kcf_one _ | (simp [Value.oneCell']; done)) ?_
    intro W hW
    refine l_val (r_assign (v := .bool _) rfl rfl) rfl rfl ?_
    refine l_end ?_
    refine n_then ?_
    refine c_seq ?_
    refine c_reg ?_
    refine l_val (r_move (v := .bool _) rfl rfl) rfl rfl ?_
    refine l_val (r_not rfl rfl) rfl rfl ?_
    refine l_end ?_
    refine n_then ?_
    refine c_true rfl ?_
    refine c_seq ?_
    refine c_reg ?_
    refine l_val (r_assign (v := .int _ _) rfl rfl) rfl rfl ?_
    refine l_end ?_
    refine n_then ?_
    refine c_ret ?_
    refine r_then ?_
    refine ret_tmp (v := .int .i64 (chk s)) rfl ?_ ⟨rfl, hW.below⟩
    rw [chk_no hc1]; rfl

set_option maxRecDepth 10000 in
/-- headend/headendref03.Valid -/
theorem g_rValid (s : Sc) : Gives Try.prog 68 [.agg [.int .u8 s.k, .int .i64 s.d, .int .i64 s.g, .int .u64 s.p, .int .u64 s.q, .int .u64 s.r].toArray].toArray (.bool (schB s)) := by
  refine gives_of Try.func68 rfl (bs := [.agg [.int .u8 s.k, .int .i64 s.d, .int .i64 s.g, .int .u64 s.p, .int .u64 s.q, .int .u64 s.r].toArray, undef, undef, undef, undef, undef, undef, undef, undef, undef, undef, undef, undef, undef, undef, undef, undef, undef, undef, undef, undef, undef, undef, undef, undef, undef, undef, undef, undef, undef, undef, undef]) rfl ?_
  intro w hW
  refine c_seq ?_
  refine c_reg ?_
  refine l_box hW rfl rfl rfl rfl ?_
  intro g1 W hW
  refine l_val (r_assign (v := .bool _) rfl rfl) rfl rfl ?_
  refine l_end ?_
  refine n_then ?_
  refine c_seq ?_
  refine c_reg ?_
  refine l_val (r_fieldAddr 0 Try.underlying26 rfl tyC5.size rfl rfl rfl) rfl rfl ?_
  refine l_loadC hW 0 tyC5 rfl rfl rfl rfl rfl rfl ?_
  refine l_val (r_geq rfl rfl rfl rfl) rfl rfl ?_
  refine l_split ?_ ?_
  · intro hc1
    replace hc1 := of_decide_eq_true hc1
    refine l_val (r_move (v := .bool _) rfl rfl) rfl rfl ?_
    refine l_valG (r_fieldAddr 0 Try.underlying26 rfl tyC5.size rfl rfl rfl) (by kernel_rfl) rfl ?_
    refine l_loadCG hW 0 tyC5 (by kernel_rfl) rfl rfl rfl rfl rfl ?_
    refine l_valG (r_leq rfl rfl rfl rfl) (by kernel_rfl) rfl ?_
    refine l_split ?_ ?_
    · intro hc2
      replace hc2 := of_decide_eq_true hc2
      refine l_val (r_pick (v := .bool _) rfl rfl rfl) rfl rfl ?_
      refine l_val (r_move (v := .bool _) rfl rfl) rfl rfl ?_
      refine l_valG (r_fieldAddr 1 Try.underlying26 rfl tyC3.size rfl rfl rfl) (by kernel_rfl) rfl ?_
      refine l_loadCG hW 0 tyC3 (by kernel_rfl) rfl rfl rfl rfl rfl ?_
      refine l_valG (r_geq rfl rfl rfl rfl) (by kernel_rfl) rfl ?_
      refine l_split ?_ ?_
      · intro hc3
        replace hc3 := of_decide_eq_true hc3
        refine l_val (r_pick (v := .bool _) rfl rfl rfl) rfl rfl ?_
        refine l_val (r_move (v := .bool _) rfl rfl) rfl rfl ?_
        refine l_valG (r_fieldAddr 1 Try.underlying26 rfl tyC3.size rfl rfl rfl) (by kernel_rfl) rfl ?_
        refine l_loadCG hW 0 tyC3 (by kernel_rfl) rfl rfl rfl rfl rfl ?_
        refine l_valG (r_leq rfl rfl rfl rfl) (by kernel_rfl) rfl ?_
        refine l_split ?_ ?_
        · intro hc4
          replace hc4 := of_decide_eq_true hc4
          refine l_val (r_pick (v := .bool _) rfl rfl rfl) rfl rfl ?_
          refine l_val (r_move (v := .bool _) rfl rfl) rfl rfl ?_
          refine l_valG (r_fieldAddr 2 Try.underlying26 rfl tyC3.size rfl rfl rfl) (by kernel_rfl) rfl ?_
          refine l_loadCG hW 0 tyC3 (by kernel_rfl) rfl rfl rfl rfl rfl ?_
          refine l_valG (r_eql rfl rfl rfl rfl) (by kernel_rfl) rfl ?_
          refine l_split ?_ ?_
          · intro hc5
            replace hc5 := of_decide_eq_true hc5
            refine l_val (r_pick (v := .bool _) rfl rfl rfl) rfl rfl ?_
            refine l_val (r_move (v := .bool _) rfl rfl) rfl rfl ?_
            refine l_valG (r_fieldAddr 3 Try.underlying26 rfl tyA24.size rfl rfl rfl) (by kernel_rfl) rfl ?_
            refine l_loadPG hW 0 tyA24 (by kernel_rfl) rfl rfl rfl rfl (by first | rfl | omega | (simp; done) | (simp; omega)) rfl ?_
            refine l_valG (r_build (ps := []) (bld24_) rfl rfl) (by kernel_rfl) rfl ?_
            refine l_valG (r_eqlS gd24 (eqS24 _ _ _ _ _ _) rfl rfl rfl rfl) (by kernel_rfl) rfl ?_
            refine l_val (r_pick (v := .bool _) rfl rfl rfl) rfl rfl ?_
            refine l_val (r_assign (v := .bool _) rfl rfl) rfl rfl ?_
            refine l_end ?_
            refine n_then ?_
            refine c_ret ?_
            refine ret_tmp (v := .bool (schB s)) rfl ?_ ⟨rfl, hW.below⟩
            exact congrArg Value.bool (schB_dec (by omega))
          · intro hc5
            replace hc5 := of_decide_eq_false hc5
            refine l_val (r_pick (v := .bool _) rfl rfl rfl) rfl rfl ?_
            refine l_val (r_move (v := .bool _) rfl rfl) rfl rfl ?_
            refine l_not (by kernel_rfl) rfl ?_
            refine l_not (by kernel_rfl) rfl ?_
            refine l_not (by kernel_rfl) rfl ?_
            refine l_not (by kernel_rfl) rfl ?_
            refine l_val (r_pick (v := .bool _) rfl rfl rfl) rfl rfl ?_
            refine l_val (r_assign (v := .bool _) rfl rfl) rfl rfl ?_
            refine l_end ?_
            refine n_then ?_
            refine c_ret ?_
            refine ret_tmp (v := .bool (schB s)) rfl ?_ ⟨rfl, hW.below⟩
            rw [schB_no (by omega)]; rfl
        · intro hc4
          replace hc4 := of_decide_eq_false hc4
          refine l_val (r_pick (v := .bool _) rfl rfl rfl) rfl rfl ?_
          refine l_val (r_move (v := .bool _) rfl rfl) rfl rfl ?_
          refine l_not (by kernel_rfl) rfl ?_
          refine l_not (by kernel_rfl) rfl ?_
          refine l_not (by kernel_rfl) rfl ?_
          refine l_val (r_pick (v := .bool _) rfl rfl rfl) rfl rfl ?_
          refine l_val (r_move (v := .bool _) rfl rfl) rfl rfl ?_
          refine l_not (by kernel_rfl) rfl ?_
          refine l_not (by kernel_rfl) rfl ?_
          refine l_not (by kernel_rfl) rfl ?_
          refine l_not (by kernel_rfl) rfl ?_
          refine l_val (r_pick (v := .bool _) rfl rfl rfl) rfl rfl ?_
          refine l_val (r_assign (v := .bool _) rfl rfl) rfl rfl ?_
          refine l_end ?_
          refine n_then ?_
          refine c_ret ?_
          refine ret_tmp (v := .bool (schB s)) rfl ?_ ⟨rfl, hW.below⟩
          rw [schB_no (by omega)]; rfl
      · intro hc3
        replace hc3 := of_decide_eq_false hc3
        refine l_val (r_pick (v := .bool _) rfl rfl rfl) rfl rfl ?_
        refine l_val (r_move (v := .bool _) rfl rfl) rfl rfl ?_
        refine l_not (by kernel_rfl) rfl ?_
        refine l_not (by kernel_rfl) rfl ?_
        refine l_not (by kernel_rfl) rfl ?_
        refine l_val (r_pick (v := .bool _) rfl rfl rfl) rfl rfl ?_
        refine l_val (r_move (v := .bool _) rfl rfl) rfl rfl ?_
        refine l_not (by kernel_rfl) rfl ?_
        refine l_not (by kernel_rfl) rfl ?_
        refine l_not (by kernel_rfl) rfl ?_
        refine l_val (r_pick (v := .bool _) rfl rfl rfl) rfl rfl ?_
        refine l_val (r_move (v := .bool _) rfl rfl) rfl rfl ?_
        refine l_not (by kernel_rfl) rfl ?_
        refine l_not (by kernel_rfl) rfl ?_
        refine l_not (by kernel_rfl) rfl ?_
        refine l_not (by kernel_rfl) rfl ?_
        refine l_val (r_pick (v := .bool _) rfl rfl rfl) rfl rfl ?_
        refine l_val (r_assign (v := .bool _) rfl rfl) rfl rfl ?_
        refine l_end ?_
        refine n_then ?_
        refine c_ret ?_
        refine ret_tmp (v := .bool (schB s)) rfl ?_ ⟨rfl, hW.below⟩
        rw [schB_no (by omega)]; rfl
    · intro hc2
      replace hc2 := of_decide_eq_false hc2
      refine l_val (r_pick (v := .bool _) rfl rfl rfl) rfl rfl ?_
      refine l_val (r_move (v := .bool _) rfl rfl) rfl rfl ?_
      refine l_not (by kernel_rfl) rfl ?_
      refine l_not (by kernel_rfl) rfl ?_
      refine l_not (by kernel_rfl) rfl ?_
      refine l_val (r_pick (v := .bool _) rfl rfl rfl) rfl rfl ?_
      refine l_val (r_move (v := .bool _) rfl rfl) rfl rfl ?_
      refine l_not (by kernel_rfl) rfl ?_
      refine l_not (by kernel_rfl) rfl ?_
      refine l_not (by kernel_rfl) rfl ?_
      refine l_val (r_pick (v := .bool _) rfl rfl rfl) rfl rfl ?_
      refine l_val (r_move (v := .bool _) rfl rfl) rfl rfl ?_
      refine l_not (by kernel_rfl) rfl ?_
      refine l_not (by kernel_rfl) rfl ?_
      refine l_not (by kernel_rfl) rfl ?_
      refine l_val (r_pick (v := .bool _) rfl rfl rfl) rfl rfl ?_
      refine l_val (r_move (v := .bool _) rfl rfl) rfl rfl ?_
      refine l_not (by kernel_rfl) rfl ?_
      refine l_not (by kernel_rfl) rfl ?_
      refine l_not (by kernel_rfl) rfl ?_
      refine l_not (by kernel_rfl) rfl ?_
      refine l_val (r_pick (v := .bool _) rfl rfl rfl) rfl rfl ?_
      refine l_val (r_assign (v := .bool _) rfl rfl) rfl rfl ?_
      refine l_end ?_
      refine n_then ?_
      refine c_ret ?_
      refine ret_tmp (v := .bool (schB s)) rfl ?_ ⟨rfl, hW.below⟩
      rw [schB_no (by omega)]; rfl
  · intro hc1
    replace hc1 := of_decide_eq_false hc1
    refine l_val (r_move (v := .bool _) rfl rfl) rfl rfl ?_
    refine l_not (by kernel_rfl) rfl ?_
    refine l_not (by kernel_rfl) rfl ?_
    refine l_not (by kernel_rfl) rfl ?_
    refine l_val (r_pick (v := .bool _) rfl rfl rfl) rfl rfl ?_
    refine l_val (r_move (v := .bool _) rfl rfl) rfl rfl ?_
    refine l_not (by kernel_rfl) rfl ?_
    refine l_not (by kernel_rfl) rfl ?_
    refine l_not (by kernel_rfl) rfl ?_
    refine l_val (r_pick (v := .bool _) rfl rfl rfl) rfl rfl ?_
    refine l_val (r_move (v := .bool _) rfl rfl) rfl rfl ?_
    refine l_not (by kernel_rfl) rfl ?_
    refine l_not (by kernel_rfl) rfl ?_
    refine l_not (by kernel_rfl) rfl ?_
    refine l_val (r_pick (v := .bool _) rfl rfl rfl) rfl rfl ?_
    refine l_val (r_move (v := .bool _) rfl rfl) rfl rfl ?_
    refine l_not (by kernel_rfl) rfl ?_
    refine l_not (by kernel_rfl) rfl ?_
    refine l_not (by kernel_rfl) rfl ?_
    refine l_val (r_pick (v := .bool _) rfl rfl rfl) rfl rfl ?_
    refine l_val (r_move (v := .bool _) rfl rfl) rfl rfl ?_
    refine l_not (by kernel_rfl) rfl ?_
    refine l_not (by kernel_rfl) rfl ?_
    refine l_not (by kernel_rfl) rfl ?_
    refine l_not (by kernel_rfl) rfl ?_
    refine l_val (r_pick (v := .bool _) rfl rfl rfl) rfl rfl ?_
    refine l_val (r_assign (v := .bool _) rfl rfl) rfl rfl ?_
    refine l_end ?_
    refine n_then ?_
    refine c_ret ?_
    refine ret_tmp (v := .bool (schB s)) rfl ?_ ⟨rfl, hW.below⟩
    rw [schB_no (by omega)]; rfl

set_option maxRecDepth 10000 in
/-- headend/headendref03.Check -/
theorem g_rCheck (s : Sc) : Gives Try.prog 36 [.agg [.int .u8 s.k, .int .i64 s.d, .int .i64 s.g, .int .u64 s.p, .int .u64 s.q, .int .u64 s.r].toArray].toArray (.int .i64 (chk s)) := by
  refine gives_of Try.func36 rfl (bs := [.agg [.int .u8 s.k, .int .i64 s.d, .int .i64 s.g, .int .u64 s.p, .int .u64 s.q, .int .u64 s.r].toArray, undef, undef, undef, undef, undef]) rfl ?_
  intro w hW
  refine c_seq ?_
  refine c_reg ?_
  refine l_box hW rfl rfl rfl rfl ?_
  intro g1 W hW
  refine l_val (r_assign (v := .int _ _) rfl rfl) rfl rfl ?_
  refine l_end ?_
  refine n_then ?_
  refine c_seq ?_
  refine c_seq ?_
  refine c_reg ?_
  refine l_loadA hW 0 tyA26 rfl rfl rfl rfl rfl (by first | rfl | exact kc_len _ | exact kcf_len _ | (simp; done)) ?_
  refine l_call hW (g_rValid _) en68 rfl rfl rfl rfl ?_
  intro W hW
  refine l_split ?_ ?_
  · intro hc1
    refine l_val (r_not rfl rfl) rfl rfl ?_
    refine l_end ?_
    refine n_then ?_
    refine c_false rfl ?_
    refine c_skip ?_
    refine n_then ?_
    refine c_seq ?_
    refine c_reg ?_
    refine l_val (r_assign (v := .int _ _) rfl rfl) rfl rfl ?_
    refine l_end ?_
    refine n_then ?_
    refine c_ret ?_
    refine ret_tmp (v := .int .i64 (chk s)) rfl ?_ ⟨rfl, hW.below⟩
    rw [chk_yes hc1]; rfl
  · intro hc1
    refine l_val (r_not rfl rfl) rfl rfl ?_
    refine l_end ?_
    refine n_then ?_
    refine c_true rfl ?_
    refine c_seq ?_
    refine c_reg ?_
    refine l_val (r_assign (v := .int _ _) rfl rfl) rfl rfl ?_
    refine l_end ?_
    refine n_then ?_
    refine c_ret ?_
    refine r_then ?_
    refine ret_tmp (v := .int .i64 (chk s)) rfl ?_ ⟨rfl, hW.below⟩
    rw [chk_no hc1]; rfl

end Go.Proofs.Ytoegpalacppllaa
