/- Texts that are read. -/
import Derived.Test.YtlabfinhdidmaaaFacts
import Derived.Test.YtlabfinhdidmaaaVals
import Derived.Test.YtlabfinhdidmaaaC17
import Derived.Test.YtlabfinhdidmaaaVals4
namespace Go.Proofs.Ytlabfinhdidmaaa
open Go.RowKit Pl

set_option maxRecDepth 10000 in
/-- headend/cipher.Parse -/
theorem g_Parse (l : Bs8) : Gives Try.prog 19 [strV l].toArray (parseV l) := by
  refine gives_of Try.func19 rfl (bs := [strV l, undef, undef, undef, undef, undef, undef, undef, undef, undef, undef, undef, undef, undef, undef, undef, undef, undef, undef, undef, undef, undef, undef, undef, undef, undef, undef, undef, undef, undef, undef, undef, undef, undef, undef, undef, undef, undef, undef, undef, undef, undef]) rfl ?_
  intro w hW
  refine c_seq ?_
  refine c_reg ?_
  refine l_alloc hW tyZ23 rfl rfl rfl ?_
  intro g1 W hW
  refine l_val (r_assign (v := .int _ _) rfl rfl) rfl rfl ?_
  refine l_end ?_
  refine n_then ?_
  refine c_seq ?_
  refine c_reg ?_
  refine l_alloc hW tyZ23 rfl rfl rfl ?_
  intro g2 W hW
  refine l_end ?_
  refine n_then ?_
  refine c_seq ?_
  refine c_seq ?_
  refine c_reg ?_
  refine l_val (r_move (v := .string _) rfl rfl) rfl rfl ?_
  refine l_val (r_lenStrV Try.underlying9 rfl rfl) rfl rfl ?_
  refine l_val (r_neqN (n := 32) rfl rfl rfl rfl) rfl rfl ?_
  refine l_split ?_ ?_
  · intro hc1
    replace hc1 := of_decide_eq_true hc1
    have hp : parse l = none := parse_short hc1
    refine l_end ?_
    refine n_then ?_
    refine c_true rfl ?_
    refine c_seq ?_
    refine c_reg ?_
    refine l_val (r_build (ps := []) (bld23_) rfl rfl) rfl rfl ?_
    refine l_storeA hW 1 tyA23 rfl rfl rfl rfl rfl rfl (by first | rfl | exact kc_len _ | exact kcf_len _ | (simp; done)) (by first | rfl | exact kc_len _ | exact kcf_len _ | (simp; done)) (by first | exact kc_one _ | exact kcf_one _ | (simp [Value.oneCell']; done)) ?_
    intro W hW
    refine l_val (r_assign (v := .int _ _) rfl rfl) rfl rfl ?_
    refine l_end ?_
    refine n_then ?_
    refine c_ret ?_
    refine r_then ?_
    refine ret_cell_tmp hW 1 tyA23 rfl rfl rfl (by first | rfl | exact kc_len _ | exact kcf_len _ | (simp; done)) rfl ?_
    exact ⟨by rw [parseV_none hp, noKey_eq]; rfl, hW.below⟩
  · intro hc1
    replace hc1 := of_decide_eq_false hc1
    have hl : l.length = 32 := by omega
    refine l_end ?_
    refine n_then ?_
    refine c_false rfl ?_
    refine c_skip ?_
    refine n_then ?_
    refine c_seq ?_
    refine c_seq ?_
    refine c_reg ?_
    refine l_val (r_move (v := .int _ _) rfl rfl) rfl rfl ?_
    refine l_end ?_
    refine n_then ?_
    refine c_block ?_
    refine c_loop (fun (i : Nat) (j : Nat → Value) => [strV l, j 1, .pointer (some ⟨g1, 0, none⟩), j 3, .pointer (some ⟨g2, 0, none⟩), j 5, j 6, j 7, strV l, j 9, .bool false, j 11, .int .i64 (i : Int), j 13, j 14, j 15, j 16, j 17, j 18, j 19, j 20, j 21, j 22, j 23, j 24, j 25, j 26, j 27, j 28, j 29, j 30, j 31, j 32, j 33, j 34, j 35, j 36, j 37, j 38, j 39, j 40, j 41]) (fun (i : Nat) => [⟨g2, kcf (upto (pairB l) i), 23⟩, ⟨g1, z23, 23⟩]) (fun (i : Nat) => i ≤ 16 ∧ fits l (2 * i)) (fun (i : Nat) => 16 - i) 0 (by kernel_rfl) (hW.to (by simp only [upto_zero]; rfl)) ⟨Nat.zero_le _, fits_zero l⟩ ?_
    intro i j W hx hW
    obtain ⟨hi, hf⟩ := hx
    refine c_seq ?_
    refine c_reg ?_
    refine l_val (r_lssN (n := 16) rfl rfl rfl rfl) rfl rfl ?_
    refine l_split ?_ ?_
    · intro hc2
      replace hc2 := of_decide_eq_true hc2
      refine l_end ?_
      refine n_then ?_
      refine c_seq ?_
      refine c_true rfl ?_
      refine c_skip ?_
      refine n_then ?_
      refine c_seq ?_
      refine c_block ?_
      refine c_seq ?_
      refine c_reg ?_
      refine l_val (r_move (v := .int _ _) rfl rfl) rfl rfl ?_
      refine l_val (r_assign (v := .int _ _) rfl rfl) rfl rfl ?_
      refine l_end ?_
      refine n_then ?_
      refine c_seq ?_
      refine c_regY hW [] [.q, .q, .q, .q, .q, .q, .q, .q, .q, .q, .q, .q, .q] [0, 0, 2, 7, 15, 0, 0, 64, 192, 480, 1023, 2047, 4095] (by kernel_rfl) (by kernel_rfl) ?_
      refine y_val (r_move (v := .string _) rfl rfl) rfl rfl ?_
      refine y_val (r_move (v := .int _ _) rfl rfl) rfl rfl ?_
      refine y_val (r_mulN (m := 2) (n := i) rfl rfl rfl (by omega)) rfl rfl ?_
      refine y_val (r_indexStrV (l := l) (n := 2 * i) Try.underlying9 rfl rfl rfl (gb_get (by omega))) rfl rfl ?_
      refine y_call (g_IndexByte _) en41 rfl rfl rfl rfl ?_
      refine y_val (r_move (v := .string _) rfl rfl) rfl rfl ?_
      refine y_val (r_move (v := .int _ _) rfl rfl) rfl rfl ?_
      refine y_val (r_mulN (m := 2) (n := i) rfl rfl rfl (by omega)) rfl rfl ?_
      refine y_val (r_addN (m := 2 * i) (n := 1) rfl rfl rfl (by omega)) rfl rfl ?_
      refine y_val (r_indexStrV (l := l) (n := 2 * i + 1) Try.underlying9 rfl rfl rfl (gb_get (by omega))) rfl rfl ?_
      refine y_call (g_IndexByte _) en41 rfl rfl rfl rfl ?_
      refine y_val (r_assign (v := .int _ _) rfl rfl) rfl rfl ?_
      refine y_val (r_assign (v := .int _ _) rfl rfl) rfl rfl ?_
      refine y_end ?_
      intro W hW
      refine n_then ?_
      refine c_seq ?_
      refine c_seq ?_
      refine c_reg ?_
      refine l_val (r_move (v := .int _ _) rfl rfl) rfl rfl ?_
      refine l_val (r_lss (m := idx16 (gb l (2 * i))) (n := 0) rfl rfl rfl rfl) rfl rfl ?_
      refine l_split ?_ ?_
      · intro hc3
        replace hc3 := of_decide_eq_true hc3
        have hp : parse l = none := parse_bad (by omega) (idx16_neg hc3)
        refine l_val (r_move (v := .bool _) rfl rfl) rfl rfl ?_
        refine l_not (by kernel_rfl) rfl ?_
        refine l_not (by kernel_rfl) rfl ?_
        refine l_val (r_pick (v := .bool _) rfl rfl rfl) rfl rfl ?_
        refine l_end ?_
        refine n_then ?_
        refine c_true rfl ?_
        refine c_seq ?_
        refine c_reg ?_
        refine l_val (r_build (ps := []) (bld23_) rfl rfl) rfl rfl ?_
        refine l_storeA hW 1 tyA23 rfl rfl rfl rfl rfl rfl (by first | rfl | exact kc_len _ | exact kcf_len _ | (simp; done)) (by first | rfl | exact kc_len _ | exact kcf_len _ | (simp; done)) (by first | exact kc_one _ | exact kcf_one _ | (simp [Value.oneCell']; done)) ?_
        intro W hW
        refine l_val (r_assign (v := .int _ _) rfl rfl) rfl rfl ?_
        refine l_end ?_
        refine n_then ?_
        refine c_ret ?_
        refine r_then ?_
        refine r_block ?_
        refine r_then ?_
        refine r_then ?_
        refine r_block ?_
        refine r_then ?_
        refine ret_cell_tmp hW 1 tyA23 rfl rfl rfl (by first | rfl | exact kc_len _ | exact kcf_len _ | (simp; done)) rfl ?_
        exact ⟨by rw [parseV_none hp, noKey_eq]; rfl, hW.below⟩
      · intro hc3
        replace hc3 := of_decide_eq_false hc3
        obtain ⟨e1, d1⟩ := idx16_pos hc3
        rw [e1]
        refine l_val (r_move (v := .bool _) rfl rfl) rfl rfl ?_
        refine l_valG (r_move (v := .int _ _) rfl rfl) (by kernel_rfl) rfl ?_
        refine l_valG (r_lss (m := idx16 (gb l (2 * i + 1))) (n := 0) rfl rfl rfl rfl) (by kernel_rfl) rfl ?_
        refine l_split ?_ ?_
        · intro hc4
          replace hc4 := of_decide_eq_true hc4
          have hp : parse l = none := parse_bad (by omega) (idx16_neg hc4)
          refine l_val (r_pick (v := .bool _) rfl rfl rfl) rfl rfl ?_
          refine l_end ?_
          refine n_then ?_
          refine c_true rfl ?_
          refine c_seq ?_
          refine c_reg ?_
          refine l_val (r_build (ps := []) (bld23_) rfl rfl) rfl rfl ?_
          refine l_storeA hW 1 tyA23 rfl rfl rfl rfl rfl rfl (by first | rfl | exact kc_len _ | exact kcf_len _ | (simp; done)) (by first | rfl | exact kc_len _ | exact kcf_len _ | (simp; done)) (by first | exact kc_one _ | exact kcf_one _ | (simp [Value.oneCell']; done)) ?_
          intro W hW
          refine l_val (r_assign (v := .int _ _) rfl rfl) rfl rfl ?_
          refine l_end ?_
          refine n_then ?_
          refine c_ret ?_
          refine r_then ?_
          refine r_block ?_
          refine r_then ?_
          refine r_then ?_
          refine r_block ?_
          refine r_then ?_
          refine ret_cell_tmp hW 1 tyA23 rfl rfl rfl (by first | rfl | exact kc_len _ | exact kcf_len _ | (simp; done)) rfl ?_
          exact ⟨by rw [parseV_none hp, noKey_eq]; rfl, hW.below⟩
        · intro hc4
          replace hc4 := of_decide_eq_false hc4
          obtain ⟨e2, d2⟩ := idx16_pos hc4
          rw [e2]
          refine l_val (r_pick (v := .bool _) rfl rfl rfl) rfl rfl ?_
          refine l_end ?_
          refine n_then ?_
          refine c_false rfl ?_
          refine c_skip ?_
          refine n_then ?_
          refine c_reg ?_
          refine l_val (r_move (v := .int _ _) rfl rfl) rfl rfl ?_
          refine l_val (r_move (v := .int _ _) rfl rfl) rfl rfl ?_
          refine l_val (r_shl_i64N (n := dval (gb l (2 * i))) (s := 4) rfl rfl rfl (by decide) (by omega)) rfl rfl ?_
          refine l_val (r_move (v := .int _ _) rfl rfl) rfl rfl ?_
          refine l_val (r_or16 rfl rfl rfl d1 d2) rfl rfl ?_
          refine l_val (r_conv_i64_u8 Try.underlying3 Try.underlying5 rfl rfl) rfl rfl ?_
          refine l_val (r_indexAddrArr1 Try.underlying23 tyC5.size rfl rfl rfl (by omega)) rfl rfl ?_
          refine l_storeC hW 0 tyC5 (v := .int _ _) rfl rfl rfl rfl rfl rfl (by rw [kcf_len]; omega) rfl ?_
          intro W hW
          refine l_end ?_
          refine n_block ?_
          refine n_then ?_
          refine c_reg ?_
          refine l_val (r_addN (n := 1) rfl rfl rfl (by omega)) rfl rfl ?_
          refine l_val (r_move (v := .int _ _) rfl rfl) rfl rfl ?_
          refine l_end ?_
          refine n_then ?_
          exact loop_next (i + 1) (by kernel_rfl) (hW.to (by simp only [← upto_set]; rfl)) ⟨by omega, fits_step hf d1 d2⟩ (by omega)
    · intro hc2
      replace hc2 := of_decide_eq_false hc2
      obtain rfl : i = 16 := by omega
      have hp := parse_good hl hf
      refine l_end ?_
      refine n_then ?_
      refine c_seq ?_
      refine c_false rfl ?_
      refine c_exit ?_
      refine x_then ?_
      refine x_then ?_
      refine x_hit ?_
      refine n_then ?_
      refine c_seq ?_
      refine c_reg ?_
      refine l_loadA hW 0 tyA23 rfl rfl rfl rfl rfl (by first | rfl | exact kc_len _ | exact kcf_len _ | (simp; done)) ?_
      refine l_storeA hW 1 tyA23 rfl rfl rfl rfl rfl rfl (by first | rfl | exact kc_len _ | exact kcf_len _ | (simp; done)) (by first | rfl | exact kc_len _ | exact kcf_len _ | (simp; done)) (by first | exact kc_one _ | exact kcf_one _ | (simp [Value.oneCell']; done)) ?_
      intro W hW
      refine l_val (r_assign (v := .int _ _) rfl rfl) rfl rfl ?_
      refine l_end ?_
      refine n_then ?_
      refine c_ret ?_
      refine ret_cell_tmp hW 1 tyA23 rfl rfl rfl (by first | rfl | exact kc_len _ | exact kcf_len _ | (simp; done)) rfl ?_
      exact ⟨by rw [parseV_some hp, ← upto_fin (pairB l) (k := 16) (.inl rfl)]; rfl, hW.below⟩

set_option maxRecDepth 10000 in
/-- headend/headendref02.Parse -/
theorem g_rParse (l : Bs8) : Gives Try.prog 20 [strV l].toArray (parseV l) := by
  refine gives_of Try.func20 rfl (bs := [strV l, undef, undef, undef, undef, undef, undef, undef, undef, undef, undef, undef, undef, undef, undef, undef, undef, undef, undef, undef, undef, undef, undef, undef, undef, undef, undef, undef, undef, undef, undef, undef, undef, undef, undef, undef, undef, undef, undef, undef, undef, undef]) rfl ?_
  intro w hW
  refine c_seq ?_
  refine c_reg ?_
  refine l_alloc hW tyZ23 rfl rfl rfl ?_
  intro g1 W hW
  refine l_val (r_assign (v := .int _ _) rfl rfl) rfl rfl ?_
  refine l_end ?_
  refine n_then ?_
  refine c_seq ?_
  refine c_reg ?_
  refine l_alloc hW tyZ23 rfl rfl rfl ?_
  intro g2 W hW
  refine l_end ?_
  refine n_then ?_
  refine c_seq ?_
  refine c_seq ?_
  refine c_reg ?_
  refine l_val (r_move (v := .string _) rfl rfl) rfl rfl ?_
  refine l_val (r_lenStrV Try.underlying9 rfl rfl) rfl rfl ?_
  refine l_val (r_neqN (n := 32) rfl rfl rfl rfl) rfl rfl ?_
  refine l_split ?_ ?_
  · intro hc1
    replace hc1 := of_decide_eq_true hc1
    have hp : parse l = none := parse_short hc1
    refine l_end ?_
    refine n_then ?_
    refine c_true rfl ?_
    refine c_seq ?_
    refine c_reg ?_
    refine l_val (r_build (ps := []) (bld23_) rfl rfl) rfl rfl ?_
    refine l_storeA hW 1 tyA23 rfl rfl rfl rfl rfl rfl (by first | rfl | exact kc_len _ | exact kcf_len _ | (simp; done)) (by first | rfl | exact kc_len _ | exact kcf_len _ | (simp; done)) (by first | exact kc_one _ | exact kcf_one _ | (simp [Value.oneCell']; done)) ?_
    intro W hW
    refine l_val (r_assign (v := .int _ _) rfl rfl) rfl rfl ?_
    refine l_end ?_
    refine n_then ?_
    refine c_ret ?_
    refine r_then ?_
    refine ret_cell_tmp hW 1 tyA23 rfl rfl rfl (by first | rfl | exact kc_len _ | exact kcf_len _ | (simp; done)) rfl ?_
    exact ⟨by rw [parseV_none hp, noKey_eq]; rfl, hW.below⟩
  · intro hc1
    replace hc1 := of_decide_eq_false hc1
    have hl : l.length = 32 := by omega
    refine l_end ?_
    refine n_then ?_
    refine c_false rfl ?_
    refine c_skip ?_
    refine n_then ?_
    refine c_seq ?_
    refine c_seq ?_
    refine c_reg ?_
    refine l_val (r_assign (v := .int _ _) rfl rfl) rfl rfl ?_
    refine l_end ?_
    refine n_then ?_
    refine c_block ?_
    refine c_loop (fun (i : Nat) (j : Nat → Value) => [strV l, j 1, .pointer (some ⟨g1, 0, none⟩), j 3, .pointer (some ⟨g2, 0, none⟩), .int .i64 (i : Int), j 6, j 7, strV l, j 9, .bool false, j 11, j 12, j 13, j 14, j 15, j 16, j 17, j 18, j 19, j 20, j 21, j 22, j 23, j 24, j 25, j 26, j 27, j 28, j 29, j 30, j 31, j 32, j 33, j 34, j 35, j 36, j 37, j 38, j 39, j 40, j 41]) (fun (i : Nat) => [⟨g2, kcf (upto (pairB l) i), 23⟩, ⟨g1, z23, 23⟩]) (fun (i : Nat) => i ≤ 16 ∧ fits l (2 * i)) (fun (i : Nat) => 16 - i) 0 (by kernel_rfl) (hW.to (by simp only [upto_zero]; rfl)) ⟨Nat.zero_le _, fits_zero l⟩ ?_
    intro i j W hx hW
    obtain ⟨hi, hf⟩ := hx
    refine c_seq ?_
    refine c_seq ?_
    refine c_reg ?_
    refine l_val (r_move (v := .int _ _) rfl rfl) rfl rfl ?_
    refine l_val (r_lssN (n := 16) rfl rfl rfl rfl) rfl rfl ?_
    refine l_split ?_ ?_
    · intro hc2
      replace hc2 := of_decide_eq_true hc2
      refine l_end ?_
      refine n_then ?_
      refine c_true rfl ?_
      refine c_skip ?_
      refine n_then ?_
      refine c_seq ?_
      refine c_block ?_
      refine c_seq ?_
      refine c_regY hW [] [.q, .q, .q, .q, .q, .q, .q, .q, .q, .q, .q, .q, .q] [0, 0, 2, 7, 15, 0, 0, 64, 192, 480, 1023, 2047, 4095] (by kernel_rfl) (by kernel_rfl) ?_
      refine y_val (r_move (v := .string _) rfl rfl) rfl rfl ?_
      refine y_val (r_move (v := .int _ _) rfl rfl) rfl rfl ?_
      refine y_val (r_mulN (m := 2) (n := i) rfl rfl rfl (by omega)) rfl rfl ?_
      refine y_val (r_indexStrV (l := l) (n := 2 * i) Try.underlying9 rfl rfl rfl (gb_get (by omega))) rfl rfl ?_
      refine y_call (g_digit _) en42 rfl rfl rfl rfl ?_
      refine y_val (r_move (v := .string _) rfl rfl) rfl rfl ?_
      refine y_val (r_move (v := .int _ _) rfl rfl) rfl rfl ?_
      refine y_val (r_mulN (m := 2) (n := i) rfl rfl rfl (by omega)) rfl rfl ?_
      refine y_val (r_addN (m := 2 * i) (n := 1) rfl rfl rfl (by omega)) rfl rfl ?_
      refine y_val (r_indexStrV (l := l) (n := 2 * i + 1) Try.underlying9 rfl rfl rfl (gb_get (by omega))) rfl rfl ?_
      refine y_call (g_digit _) en42 rfl rfl rfl rfl ?_
      refine y_val (r_assign (v := .int _ _) rfl rfl) rfl rfl ?_
      refine y_val (r_assign (v := .int _ _) rfl rfl) rfl rfl ?_
      refine y_end ?_
      intro W hW
      refine n_then ?_
      refine c_seq ?_
      refine c_seq ?_
      refine c_reg ?_
      refine l_val (r_move (v := .int _ _) rfl rfl) rfl rfl ?_
      refine l_val (r_eqlN (m := dval (gb l (2 * i))) (n := 16) rfl rfl rfl rfl) rfl rfl ?_
      refine l_split ?_ ?_
      · intro hc3
        replace hc3 := of_decide_eq_true hc3
        have hp : parse l = none := parse_bad (q := 2 * i) (by omega) (by omega)
        refine l_val (r_move (v := .bool _) rfl rfl) rfl rfl ?_
        refine l_not (by kernel_rfl) rfl ?_
        refine l_not (by kernel_rfl) rfl ?_
        refine l_val (r_pick (v := .bool _) rfl rfl rfl) rfl rfl ?_
        refine l_end ?_
        refine n_then ?_
        refine c_true rfl ?_
        refine c_seq ?_
        refine c_reg ?_
        refine l_val (r_build (ps := []) (bld23_) rfl rfl) rfl rfl ?_
        refine l_storeA hW 1 tyA23 rfl rfl rfl rfl rfl rfl (by first | rfl | exact kc_len _ | exact kcf_len _ | (simp; done)) (by first | rfl | exact kc_len _ | exact kcf_len _ | (simp; done)) (by first | exact kc_one _ | exact kcf_one _ | (simp [Value.oneCell']; done)) ?_
        intro W hW
        refine l_val (r_assign (v := .int _ _) rfl rfl) rfl rfl ?_
        refine l_end ?_
        refine n_then ?_
        refine c_ret ?_
        refine r_then ?_
        refine r_block ?_
        refine r_then ?_
        refine r_then ?_
        refine r_block ?_
        refine r_then ?_
        refine ret_cell_tmp hW 1 tyA23 rfl rfl rfl (by first | rfl | exact kc_len _ | exact kcf_len _ | (simp; done)) rfl ?_
        exact ⟨by rw [parseV_none hp, noKey_eq]; rfl, hW.below⟩
      · intro hc3
        replace hc3 := of_decide_eq_false hc3
        have d1 : dval (gb l (2 * i)) < 16 := by have := dval_le (gb l (2 * i)); omega
        refine l_val (r_move (v := .bool _) rfl rfl) rfl rfl ?_
        refine l_valG (r_move (v := .int _ _) rfl rfl) (by kernel_rfl) rfl ?_
        refine l_valG (r_eqlN (m := dval (gb l (2 * i + 1))) (n := 16) rfl rfl rfl rfl) (by kernel_rfl) rfl ?_
        refine l_split ?_ ?_
        · intro hc4
          replace hc4 := of_decide_eq_true hc4
          have hp : parse l = none := parse_bad (q := 2 * i + 1) (by omega) (by omega)
          refine l_val (r_pick (v := .bool _) rfl rfl rfl) rfl rfl ?_
          refine l_end ?_
          refine n_then ?_
          refine c_true rfl ?_
          refine c_seq ?_
          refine c_reg ?_
          refine l_val (r_build (ps := []) (bld23_) rfl rfl) rfl rfl ?_
          refine l_storeA hW 1 tyA23 rfl rfl rfl rfl rfl rfl (by first | rfl | exact kc_len _ | exact kcf_len _ | (simp; done)) (by first | rfl | exact kc_len _ | exact kcf_len _ | (simp; done)) (by first | exact kc_one _ | exact kcf_one _ | (simp [Value.oneCell']; done)) ?_
          intro W hW
          refine l_val (r_assign (v := .int _ _) rfl rfl) rfl rfl ?_
          refine l_end ?_
          refine n_then ?_
          refine c_ret ?_
          refine r_then ?_
          refine r_block ?_
          refine r_then ?_
          refine r_then ?_
          refine r_block ?_
          refine r_then ?_
          refine ret_cell_tmp hW 1 tyA23 rfl rfl rfl (by first | rfl | exact kc_len _ | exact kcf_len _ | (simp; done)) rfl ?_
          exact ⟨by rw [parseV_none hp, noKey_eq]; rfl, hW.below⟩
        · intro hc4
          replace hc4 := of_decide_eq_false hc4
          have d2 : dval (gb l (2 * i + 1)) < 16 := by have := dval_le (gb l (2 * i + 1)); omega
          refine l_val (r_pick (v := .bool _) rfl rfl rfl) rfl rfl ?_
          refine l_end ?_
          refine n_then ?_
          refine c_false rfl ?_
          refine c_skip ?_
          refine n_then ?_
          refine c_reg ?_
          refine l_val (r_move (v := .int _ _) rfl rfl) rfl rfl ?_
          refine l_val (r_move (v := .int _ _) rfl rfl) rfl rfl ?_
          refine l_val (r_mulN (m := 16) (n := dval (gb l (2 * i))) rfl rfl rfl (by omega)) rfl rfl ?_
          refine l_val (r_move (v := .int _ _) rfl rfl) rfl rfl ?_
          refine l_val (r_addN (m := 16 * dval (gb l (2 * i))) (n := dval (gb l (2 * i + 1))) rfl rfl rfl (by omega)) rfl rfl ?_
          refine l_val (r_conv_i64_u8 Try.underlying3 Try.underlying5 rfl rfl) rfl rfl ?_
          refine l_val (r_indexAddrArr1 Try.underlying23 tyC5.size rfl rfl rfl (by omega)) rfl rfl ?_
          refine l_storeC hW 0 tyC5 (v := .int _ _) rfl rfl rfl rfl rfl rfl (by rw [kcf_len]; omega) rfl ?_
          intro W hW
          refine l_end ?_
          refine n_block ?_
          refine n_then ?_
          refine c_reg ?_
          refine l_val (r_move (v := .int _ _) rfl rfl) rfl rfl ?_
          refine l_val (r_addN (n := 1) rfl rfl rfl (by omega)) rfl rfl ?_
          refine l_val (r_assign (v := .int _ _) rfl rfl) rfl rfl ?_
          refine l_end ?_
          refine n_then ?_
          exact loop_next (i + 1) (by kernel_rfl) (hW.to (by simp only [← upto_set]; rfl)) ⟨by omega, fits_step hf d1 d2⟩ (by omega)
    · intro hc2
      replace hc2 := of_decide_eq_false hc2
      obtain rfl : i = 16 := by omega
      have hp := parse_good hl hf
      refine l_end ?_
      refine n_then ?_
      refine c_false rfl ?_
      refine c_exit ?_
      refine x_then ?_
      refine x_then ?_
      refine x_hit ?_
      refine n_then ?_
      refine c_seq ?_
      refine c_reg ?_
      refine l_loadA hW 0 tyA23 rfl rfl rfl rfl rfl (by first | rfl | exact kc_len _ | exact kcf_len _ | (simp; done)) ?_
      refine l_storeA hW 1 tyA23 rfl rfl rfl rfl rfl rfl (by first | rfl | exact kc_len _ | exact kcf_len _ | (simp; done)) (by first | rfl | exact kc_len _ | exact kcf_len _ | (simp; done)) (by first | exact kc_one _ | exact kcf_one _ | (simp [Value.oneCell']; done)) ?_
      intro W hW
      refine l_val (r_assign (v := .int _ _) rfl rfl) rfl rfl ?_
      refine l_end ?_
      refine n_then ?_
      refine c_ret ?_
      refine ret_cell_tmp hW 1 tyA23 rfl rfl rfl (by first | rfl | exact kc_len _ | exact kcf_len _ | (simp; done)) rfl ?_
      exact ⟨by rw [parseV_some hp, ← upto_fin (pairB l) (k := 16) (.inl rfl)]; rfl, hW.below⟩

theorem g_ParseN {l : Bs8} (h : parse l = none) : Gives Try.prog 19 [strV l].toArray (.tuple #[keyV (0#64, 0#64), .int .i64 12]) := by
  have := g_Parse l
  rwa [parseV_none h] at this
theorem g_ParseS {l : Bs8} {k : Kw} (h : parse l = some k) : Gives Try.prog 19 [strV l].toArray (.tuple #[keyV k, .int .i64 0]) := by
  have := g_Parse l
  rwa [parseV_some h] at this

theorem g_rParseN {l : Bs8} (h : parse l = none) : Gives Try.prog 20 [strV l].toArray (.tuple #[keyV (0#64, 0#64), .int .i64 12]) := by
  have := g_rParse l
  rwa [parseV_none h] at this
theorem g_rParseS {l : Bs8} {k : Kw} (h : parse l = some k) : Gives Try.prog 20 [strV l].toArray (.tuple #[keyV k, .int .i64 0]) := by
  have := g_rParse l
  rwa [parseV_some h] at this

end Go.Proofs.Ytlabfinhdidmaaa
