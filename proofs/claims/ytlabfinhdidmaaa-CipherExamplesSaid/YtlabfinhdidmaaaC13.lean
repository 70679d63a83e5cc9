/- Digests of the program. -/
import Derived.Test.YtlabfinhdidmaaaFacts
import Derived.Test.YtlabfinhdidmaaaVals
import Derived.Test.YtlabfinhdidmaaaC12
import Derived.Test.YtlabfinhdidmaaaVals2
namespace Go.Proofs.Ytlabfinhdidmaaa
open Go.RowKit Pl

set_option maxRecDepth 10000 in
/-- headend/cipher.Hash -/
theorem g_Hash (a : Option Addr) (n c : Nat) (l : Bs8) (hl : l.length = n) (hcap : n ≤ c) (hnil : a = none → n = 0 ∧ c = 0) : GivesR Try.prog 35 [.slice a n c].toArray (fun w => Rd w a (bl l)) (hashV l) := by
  refine givesR_of Try.func35 rfl (bs := [.slice a n c, undef, undef, undef, undef, undef, undef, undef, undef, undef, undef, undef, undef, undef, undef, undef, undef, undef, undef, undef, undef, undef, undef, undef, undef, undef, undef, undef, undef, undef, undef, undef, undef, undef, undef, undef, undef, undef, undef, undef, undef, undef, undef, undef, undef, undef, undef, undef, undef, undef, undef, undef, undef, undef, undef, undef]) rfl ?_
  intro w hP hW
  subst hl
  refine c_seq ?_
  refine c_reg ?_
  refine l_alloc hW tyZ23 rfl rfl rfl ?_
  intro g1 W hW
  refine l_val (r_assign (v := .int _ _) rfl rfl) rfl rfl ?_
  refine l_end ?_
  refine n_then ?_
  refine c_seq ?_
  refine c_seq ?_
  refine c_reg ?_
  refine l_val (r_move (v := .slice _ _ _) rfl rfl) rfl rfl ?_
  refine l_val (r_lenSlice Try.underlying37 rfl rfl) rfl rfl ?_
  refine l_val (r_gtrN (n := 16384) rfl rfl rfl rfl) rfl rfl ?_
  refine l_split ?_ ?_
  · intro hc1
    replace hc1 := of_decide_eq_true hc1
    refine l_end ?_
    refine n_then ?_
    refine c_true rfl ?_
    refine c_seq ?_
    refine c_reg ?_
    refine l_val (r_build (ps := []) (bld23_) rfl rfl) rfl rfl ?_
    refine l_storeA hW 0 tyA23 rfl rfl rfl rfl rfl rfl (by first | rfl | exact kc_len _ | exact kcf_len _ | (simp; done)) (by first | rfl | exact kc_len _ | exact kcf_len _ | (simp; done)) (by first | exact kc_one _ | exact kcf_one _ | (simp [Value.oneCell']; done)) ?_
    intro W hW
    refine l_val (r_assign (v := .int _ _) rfl rfl) rfl rfl ?_
    refine l_end ?_
    refine n_then ?_
    refine c_ret ?_
    refine r_then ?_
    refine ret_cell_tmp hW 0 tyA23 rfl rfl rfl (by first | rfl | exact kc_len _ | exact kcf_len _ | (simp; done)) rfl ?_
    exact ⟨by rw [hashV, if_pos hc1, noKey_eq]; rfl, hW.below⟩
  · intro hc1
    replace hc1 := of_decide_eq_false hc1
    refine l_end ?_
    refine n_then ?_
    refine c_false rfl ?_
    refine c_skip ?_
    refine n_then ?_
    refine c_seq ?_
    refine c_reg ?_
    refine l_val (r_move (v := .slice _ _ _) rfl rfl) rfl rfl ?_
    refine l_val (r_lenSlice Try.underlying37 rfl rfl) rfl rfl ?_
    refine l_val (r_quoN (n := 16) rfl rfl rfl (by omega) (by omega)) rfl rfl ?_
    refine l_val (r_mulN (n := 16) rfl rfl rfl (by omega)) rfl rfl ?_
    refine l_val (r_addN (n := 16) rfl rfl rfl (by omega)) rfl rfl ?_
    refine l_val (r_assign (v := .int _ _) rfl rfl) rfl rfl ?_
    refine l_end ?_
    refine n_then ?_
    refine c_seq ?_
    refine c_seq ?_
    refine c_reg ?_
    refine l_val (r_move (v := .slice _ _ _) rfl rfl) rfl rfl ?_
    refine l_val (r_lenSlice Try.underlying37 rfl rfl) rfl rfl ?_
    refine l_val (r_remN (n := 16) rfl rfl rfl (by omega)) rfl rfl ?_
    refine l_val (r_gtrN (n := 7) rfl rfl rfl rfl) rfl rfl ?_
    refine l_split ?_ ?_
    · intro hc2
      replace hc2 := of_decide_eq_true hc2
      refine l_end ?_
      refine n_then ?_
      refine c_true rfl ?_
      refine c_reg ?_
      refine l_val (r_move (v := .int _ _) rfl rfl) rfl rfl ?_
      refine l_val (r_addN (n := 16) rfl rfl rfl (by omega)) rfl rfl ?_
      refine l_val (r_assign (v := .int _ _) rfl rfl) rfl rfl ?_
      refine l_end ?_
      refine n_then ?_
      refine c_seq ?_
      refine c_reg ?_
      refine l_val (r_move (v := .int _ _) rfl rfl) rfl rfl ?_
      have hN : (l.length / 16 * 16 + 16 + 16) = (l ++ pad l.length).length := by rw [List.length_append, pad_len]; unfold zc; omega
      refine l_makeSlice hW tyE37 (z := .int .u8 0) (v := .int .u8 0) (n := (l.length / 16 * 16 + 16 + 16)) (k := (l.length / 16 * 16 + 16 + 16)) tyZE37 rfl rfl rfl rfl rfl rfl (by omega) (by decide) (Nat.mul_one _) ?_
      intro go W hW
      refine l_val (r_assign (v := .slice _ _ _) rfl rfl) rfl rfl ?_
      refine l_end ?_
      refine n_then ?_
      refine c_seq ?_
      refine c_reg ?_
      refine l_val (r_move (v := .slice _ _ _) rfl rfl) rfl rfl ?_
      refine l_val (r_move (v := .slice _ _ _) rfl rfl) rfl rfl ?_
      refine l_copy hW 0 tyE37 (news := bl l) rfl rfl rfl rfl rfl rfl (hP.past hW.below) (bl_len l) (fun h => (hnil h).1) (by rw [List.length_replicate]; omega) (j := l.length) (by omega) (bl_one _) ?_
      intro W hW
      refine l_end ?_
      refine n_then ?_
      refine c_seq ?_
      refine c_reg ?_
      refine l_val (r_move (v := .slice _ _ _) rfl rfl) rfl rfl ?_
      refine l_val (r_move (v := .slice _ _ _) rfl rfl) rfl rfl ?_
      refine l_val (r_lenSlice Try.underlying37 rfl rfl) rfl rfl ?_
      refine l_val (r_indexAddrSl1 (g := go) (n := l.length) Try.underlying37 tyC5.size rfl rfl rfl (by omega)) rfl rfl ?_
      refine l_storeC hW 0 tyC5 (v := .int _ _) rfl rfl rfl rfl rfl rfl (by simp only [List.length_append, List.length_take, List.length_drop, List.length_replicate, bl_len]; omega) rfl ?_
      intro W hW
      refine l_end ?_
      refine n_then ?_
      refine c_seq ?_
      refine c_reg ?_
      refine l_val (r_move (v := .slice _ _ _) rfl rfl) rfl rfl ?_
      refine l_val (r_move (v := .int _ _) rfl rfl) rfl rfl ?_
      refine l_val (r_subN (m := (l.length / 16 * 16 + 16 + 16)) (n := 2) rfl rfl rfl (by omega) (by omega)) rfl rfl ?_
      refine l_val (r_move (v := .slice _ _ _) rfl rfl) rfl rfl ?_
      refine l_val (r_move (v := .int _ _) rfl rfl) rfl rfl ?_
      refine l_val (r_subN (m := (l.length / 16 * 16 + 16 + 16)) (n := 1) rfl rfl rfl (by omega) (by omega)) rfl rfl ?_
      refine l_val (r_move (v := .slice _ _ _) rfl rfl) rfl rfl ?_
      refine l_val (r_lenSlice Try.underlying37 rfl rfl) rfl rfl ?_
      refine l_val (r_shr_i64N (n := l.length) (s := 8) rfl rfl rfl (by decide)) rfl rfl ?_
      refine l_val (r_conv_i64_u8 Try.underlying3 Try.underlying5 rfl rfl) rfl rfl ?_
      refine l_val (r_move (v := .slice _ _ _) rfl rfl) rfl rfl ?_
      refine l_val (r_lenSlice Try.underlying37 rfl rfl) rfl rfl ?_
      refine l_val (r_conv_i64_u8 Try.underlying3 Try.underlying5 rfl rfl) rfl rfl ?_
      refine l_val (r_indexAddrSl1 Try.underlying37 tyC5.size rfl rfl rfl (by omega)) rfl rfl ?_
      refine l_storeC hW 0 tyC5 (v := .int _ _) rfl rfl rfl rfl rfl rfl (by simp only [List.length_set, List.length_append, List.length_take, List.length_drop, List.length_replicate, bl_len]; omega) rfl ?_
      intro W hW
      refine l_val (r_indexAddrSl1 Try.underlying37 tyC5.size rfl rfl rfl (by omega)) rfl rfl ?_
      refine l_storeC hW 0 tyC5 (v := .int _ _) rfl rfl rfl rfl rfl rfl (by simp only [List.length_set, List.length_append, List.length_take, List.length_drop, List.length_replicate, bl_len]; omega) rfl ?_
      intro W hW
      refine l_end ?_
      replace hW := hW.to (L' := [⟨go, bl (l ++ pad l.length), 5⟩, _]) (by rw [← hash_cells (by omega) hN]; rfl)
      refine n_then ?_
      refine c_seq ?_
      refine c_reg ?_
      refine l_alloc hW tyZ23 rfl rfl rfl ?_
      intro g2 W hW
      refine l_end ?_
      refine n_then ?_
      refine c_seq ?_
      refine c_seq ?_
      refine c_reg ?_
      refine l_val (r_move (v := .int _ _) rfl rfl) rfl rfl ?_
      refine l_end ?_
      refine n_then ?_
      refine c_block ?_
      refine c_loop (fun (i : Nat) (j : Nat → Value) => [.slice a l.length c, j 1, .pointer (some ⟨g1, 0, none⟩), .int .i64 0, j 4, .slice (some ⟨go, 0, none⟩) (l.length / 16 * 16 + 16 + 16) (l.length / 16 * 16 + 16 + 16), .pointer (some ⟨g2, 0, none⟩), j 7, .slice a l.length c, j 9, .bool false, j 11, .slice a l.length c, j 13, j 14, j 15, j 16, .slice a l.length c, j 18, j 19, .bool true, j 21, j 22, j 23, .slice (some ⟨go, 0, none⟩) (l.length / 16 * 16 + 16 + 16) (l.length / 16 * 16 + 16 + 16), .slice (some ⟨go, 0, none⟩) (l.length / 16 * 16 + 16 + 16) (l.length / 16 * 16 + 16 + 16), .slice a l.length c, j 27, .slice (some ⟨go, 0, none⟩) (l.length / 16 * 16 + 16 + 16) (l.length / 16 * 16 + 16 + 16), .slice a l.length c, j 30, j 31, .slice (some ⟨go, 0, none⟩) (l.length / 16 * 16 + 16 + 16) (l.length / 16 * 16 + 16 + 16), j 33, j 34, .slice (some ⟨go, 0, none⟩) (l.length / 16 * 16 + 16 + 16) (l.length / 16 * 16 + 16 + 16), j 36, j 37, .slice a l.length c, j 39, j 40, j 41, .slice a l.length c, j 43, j 44, j 45, j 46, .int .i64 (i : Int), j 48, j 49, j 50, j 51, j 52, j 53, j 54, j 55]) (fun (i : Nat) => [⟨g2, kcf (upto (fun _ => 0x5a#8) i), 23⟩, ⟨go, bl (l ++ pad l.length), 5⟩, ⟨g1, z23, 23⟩]) (fun (i : Nat) => i ≤ 16) (fun (i : Nat) => 16 - i) 0 (by kernel_rfl) (hW.to (by simp only [upto_zero]; rfl)) (by omega) ?_
      intro i j W hx hW
      refine c_seq ?_
      refine c_reg ?_
      refine l_val (r_lssN (n := 16) rfl rfl rfl rfl) rfl rfl ?_
      refine l_split ?_ ?_
      · intro hc3
        replace hc3 := of_decide_eq_true hc3
        refine l_end ?_
        refine n_then ?_
        refine c_seq ?_
        refine c_true rfl ?_
        refine c_skip ?_
        refine n_then ?_
        refine c_seq ?_
        refine c_block ?_
        refine c_seq ?_
        refine c_reg ?_
        refine l_val (r_move (v := .int _ _) rfl rfl) rfl rfl ?_
        refine l_val (r_assign (v := .int _ _) rfl rfl) rfl rfl ?_
        refine l_end ?_
        refine n_then ?_
        refine c_reg ?_
        refine l_val (r_move (v := .int _ _) rfl rfl) rfl rfl ?_
        refine l_val (r_indexAddrArr1 Try.underlying23 tyC5.size rfl rfl rfl (by omega)) rfl rfl ?_
        refine l_storeC hW 0 tyC5 (v := .int _ _) rfl rfl rfl rfl rfl rfl (by rw [kcf_len]; omega) rfl ?_
        intro W hW
        refine l_end ?_
        refine n_block ?_
        refine n_then ?_
        refine c_reg ?_
        refine l_val (r_addN (n := 1) rfl rfl rfl (by omega)) rfl rfl ?_
        refine l_val (r_move (v := .int _ _) rfl rfl) rfl rfl ?_
        refine l_end ?_
        refine n_then ?_
        exact loop_next (i + 1) (by kernel_rfl) (hW.to (by rw [← upto_set]; rfl)) (by omega) (by omega)
      · intro hc3
        replace hc3 := of_decide_eq_false hc3
        obtain rfl : i = 16 := by omega
        rw [kc_s5a] at hW
        refine l_end ?_
        refine n_then ?_
        refine c_seq ?_
        refine c_false rfl ?_
        refine c_exit ?_
        refine x_then ?_
        refine x_then ?_
        refine x_hit ?_
        refine n_then ?_
        refine c_seq ?_
        refine c_reg ?_
        refine l_loadA hW 0 tyA23 rfl rfl rfl rfl rfl (by first | rfl | exact kc_len _ | exact kcf_len _ | (simp; done)) ?_
        refine l_val (r_move (v := .slice _ _ _) rfl rfl) rfl rfl ?_
        refine l_callR hW (g_fold _ (some ⟨go, 0, none⟩) (l.length / 16 * 16 + 16 + 16) (l.length / 16 * 16 + 16 + 16) (l ++ pad l.length) hN.symm (by omega) (Nat.le_refl _) 63 [] (fun _ => True) hashStep (fun s p w _ => g_Hash1 s p w) en63 (fun _ _ _ _ => trivial)) en59 ⟨hW.rd 1 rfl 0 (l ++ pad l.length).length (by rw [List.drop_zero, List.take_of_length_le (by rw [bl_len]; exact Nat.le_refl _)]), trivial⟩ rfl rfl rfl rfl ?_
        intro W hW
        refine l_storeA hW 2 tyA23 rfl rfl rfl rfl rfl rfl (by first | rfl | exact kc_len _ | exact kcf_len _ | (simp; done)) (by first | rfl | exact kc_len _ | exact kcf_len _ | (simp; done)) (by first | exact kc_one _ | exact kcf_one _ | (simp [Value.oneCell']; done)) ?_
        intro W hW
        refine l_val (r_assign (v := .int _ _) rfl rfl) rfl rfl ?_
        refine l_end ?_
        refine n_then ?_
        refine c_ret ?_
        refine ret_cell_tmp hW 2 tyA23 rfl rfl rfl (by first | rfl | exact kc_len _ | exact kcf_len _ | (simp; done)) rfl ?_
        exact ⟨by rw [hashV, if_neg hc1]; rfl, hW.below⟩
    · intro hc2
      replace hc2 := of_decide_eq_false hc2
      refine l_end ?_
      refine n_then ?_
      refine c_false rfl ?_
      refine c_skip ?_
      refine n_then ?_
      refine c_seq ?_
      refine c_reg ?_
      refine l_val (r_move (v := .int _ _) rfl rfl) rfl rfl ?_
      have hN : (l.length / 16 * 16 + 16) = (l ++ pad l.length).length := by rw [List.length_append, pad_len]; unfold zc; omega
      refine l_makeSlice hW tyE37 (z := .int .u8 0) (v := .int .u8 0) (n := (l.length / 16 * 16 + 16)) (k := (l.length / 16 * 16 + 16)) tyZE37 rfl rfl rfl rfl rfl rfl (by omega) (by decide) (Nat.mul_one _) ?_
      intro go W hW
      refine l_val (r_assign (v := .slice _ _ _) rfl rfl) rfl rfl ?_
      refine l_end ?_
      refine n_then ?_
      refine c_seq ?_
      refine c_reg ?_
      refine l_val (r_move (v := .slice _ _ _) rfl rfl) rfl rfl ?_
      refine l_val (r_move (v := .slice _ _ _) rfl rfl) rfl rfl ?_
      refine l_copy hW 0 tyE37 (news := bl l) rfl rfl rfl rfl rfl rfl (hP.past hW.below) (bl_len l) (fun h => (hnil h).1) (by rw [List.length_replicate]; omega) (j := l.length) (by omega) (bl_one _) ?_
      intro W hW
      refine l_end ?_
      refine n_then ?_
      refine c_seq ?_
      refine c_reg ?_
      refine l_val (r_move (v := .slice _ _ _) rfl rfl) rfl rfl ?_
      refine l_val (r_move (v := .slice _ _ _) rfl rfl) rfl rfl ?_
      refine l_val (r_lenSlice Try.underlying37 rfl rfl) rfl rfl ?_
      refine l_val (r_indexAddrSl1 (g := go) (n := l.length) Try.underlying37 tyC5.size rfl rfl rfl (by omega)) rfl rfl ?_
      refine l_storeC hW 0 tyC5 (v := .int _ _) rfl rfl rfl rfl rfl rfl (by simp only [List.length_append, List.length_take, List.length_drop, List.length_replicate, bl_len]; omega) rfl ?_
      intro W hW
      refine l_end ?_
      refine n_then ?_
      refine c_seq ?_
      refine c_reg ?_
      refine l_val (r_move (v := .slice _ _ _) rfl rfl) rfl rfl ?_
      refine l_val (r_move (v := .int _ _) rfl rfl) rfl rfl ?_
      refine l_val (r_subN (m := (l.length / 16 * 16 + 16)) (n := 2) rfl rfl rfl (by omega) (by omega)) rfl rfl ?_
      refine l_val (r_move (v := .slice _ _ _) rfl rfl) rfl rfl ?_
      refine l_val (r_move (v := .int _ _) rfl rfl) rfl rfl ?_
      refine l_val (r_subN (m := (l.length / 16 * 16 + 16)) (n := 1) rfl rfl rfl (by omega) (by omega)) rfl rfl ?_
      refine l_val (r_move (v := .slice _ _ _) rfl rfl) rfl rfl ?_
      refine l_val (r_lenSlice Try.underlying37 rfl rfl) rfl rfl ?_
      refine l_val (r_shr_i64N (n := l.length) (s := 8) rfl rfl rfl (by decide)) rfl rfl ?_
      refine l_val (r_conv_i64_u8 Try.underlying3 Try.underlying5 rfl rfl) rfl rfl ?_
      refine l_val (r_move (v := .slice _ _ _) rfl rfl) rfl rfl ?_
      refine l_val (r_lenSlice Try.underlying37 rfl rfl) rfl rfl ?_
      refine l_val (r_conv_i64_u8 Try.underlying3 Try.underlying5 rfl rfl) rfl rfl ?_
      refine l_val (r_indexAddrSl1 Try.underlying37 tyC5.size rfl rfl rfl (by omega)) rfl rfl ?_
      refine l_storeC hW 0 tyC5 (v := .int _ _) rfl rfl rfl rfl rfl rfl (by simp only [List.length_set, List.length_append, List.length_take, List.length_drop, List.length_replicate, bl_len]; omega) rfl ?_
      intro W hW
      refine l_val (r_indexAddrSl1 Try.underlying37 tyC5.size rfl rfl rfl (by omega)) rfl rfl ?_
      refine l_storeC hW 0 tyC5 (v := .int _ _) rfl rfl rfl rfl rfl rfl (by simp only [List.length_set, List.length_append, List.length_take, List.length_drop, List.length_replicate, bl_len]; omega) rfl ?_
      intro W hW
      refine l_end ?_
      replace hW := hW.to (L' := [⟨go, bl (l ++ pad l.length), 5⟩, _]) (by rw [← hash_cells (by omega) hN]; rfl)
      refine n_then ?_
      refine c_seq ?_
      refine c_reg ?_
      refine l_alloc hW tyZ23 rfl rfl rfl ?_
      intro g3 W hW
      refine l_end ?_
      refine n_then ?_
      refine c_seq ?_
      refine c_seq ?_
      refine c_reg ?_
      refine l_val (r_move (v := .int _ _) rfl rfl) rfl rfl ?_
      refine l_end ?_
      refine n_then ?_
      refine c_block ?_
      refine c_loop (fun (i : Nat) (j : Nat → Value) => [.slice a l.length c, j 1, .pointer (some ⟨g1, 0, none⟩), .int .i64 0, j 4, .slice (some ⟨go, 0, none⟩) (l.length / 16 * 16 + 16) (l.length / 16 * 16 + 16), .pointer (some ⟨g3, 0, none⟩), j 7, .slice a l.length c, j 9, .bool false, j 11, .slice a l.length c, j 13, j 14, j 15, j 16, .slice a l.length c, j 18, j 19, .bool false, j 21, j 22, j 23, .slice (some ⟨go, 0, none⟩) (l.length / 16 * 16 + 16) (l.length / 16 * 16 + 16), .slice (some ⟨go, 0, none⟩) (l.length / 16 * 16 + 16) (l.length / 16 * 16 + 16), .slice a l.length c, j 27, .slice (some ⟨go, 0, none⟩) (l.length / 16 * 16 + 16) (l.length / 16 * 16 + 16), .slice a l.length c, j 30, j 31, .slice (some ⟨go, 0, none⟩) (l.length / 16 * 16 + 16) (l.length / 16 * 16 + 16), j 33, j 34, .slice (some ⟨go, 0, none⟩) (l.length / 16 * 16 + 16) (l.length / 16 * 16 + 16), j 36, j 37, .slice a l.length c, j 39, j 40, j 41, .slice a l.length c, j 43, j 44, j 45, j 46, .int .i64 (i : Int), j 48, j 49, j 50, j 51, j 52, j 53, j 54, j 55]) (fun (i : Nat) => [⟨g3, kcf (upto (fun _ => 0x5a#8) i), 23⟩, ⟨go, bl (l ++ pad l.length), 5⟩, ⟨g1, z23, 23⟩]) (fun (i : Nat) => i ≤ 16) (fun (i : Nat) => 16 - i) 0 (by kernel_rfl) (hW.to (by simp only [upto_zero]; rfl)) (by omega) ?_
      intro i j W hx hW
      refine c_seq ?_
      refine c_reg ?_
      refine l_val (r_lssN (n := 16) rfl rfl rfl rfl) rfl rfl ?_
      refine l_split ?_ ?_
      · intro hc4
        replace hc4 := of_decide_eq_true hc4
        refine l_end ?_
        refine n_then ?_
        refine c_seq ?_
        refine c_true rfl ?_
        refine c_skip ?_
        refine n_then ?_
        refine c_seq ?_
        refine c_block ?_
        refine c_seq ?_
        refine c_reg ?_
        refine l_val (r_move (v := .int _ _) rfl rfl) rfl rfl ?_
        refine l_val (r_assign (v := .int _ _) rfl rfl) rfl rfl ?_
        refine l_end ?_
        refine n_then ?_
        refine c_reg ?_
        refine l_val (r_move (v := .int _ _) rfl rfl) rfl rfl ?_
        refine l_val (r_indexAddrArr1 Try.underlying23 tyC5.size rfl rfl rfl (by omega)) rfl rfl ?_
        refine l_storeC hW 0 tyC5 (v := .int _ _) rfl rfl rfl rfl rfl rfl (by rw [kcf_len]; omega) rfl ?_
        intro W hW
        refine l_end ?_
        refine n_block ?_
        refine n_then ?_
        refine c_reg ?_
        refine l_val (r_addN (n := 1) rfl rfl rfl (by omega)) rfl rfl ?_
        refine l_val (r_move (v := .int _ _) rfl rfl) rfl rfl ?_
        refine l_end ?_
        refine n_then ?_
        exact loop_next (i + 1) (by kernel_rfl) (hW.to (by rw [← upto_set]; rfl)) (by omega) (by omega)
      · intro hc4
        replace hc4 := of_decide_eq_false hc4
        obtain rfl : i = 16 := by omega
        rw [kc_s5a] at hW
        refine l_end ?_
        refine n_then ?_
        refine c_seq ?_
        refine c_false rfl ?_
        refine c_exit ?_
        refine x_then ?_
        refine x_then ?_
        refine x_hit ?_
        refine n_then ?_
        refine c_seq ?_
        refine c_reg ?_
        refine l_loadA hW 0 tyA23 rfl rfl rfl rfl rfl (by first | rfl | exact kc_len _ | exact kcf_len _ | (simp; done)) ?_
        refine l_val (r_move (v := .slice _ _ _) rfl rfl) rfl rfl ?_
        refine l_callR hW (g_fold _ (some ⟨go, 0, none⟩) (l.length / 16 * 16 + 16) (l.length / 16 * 16 + 16) (l ++ pad l.length) hN.symm (by omega) (Nat.le_refl _) 63 [] (fun _ => True) hashStep (fun s p w _ => g_Hash1 s p w) en63 (fun _ _ _ _ => trivial)) en59 ⟨hW.rd 1 rfl 0 (l ++ pad l.length).length (by rw [List.drop_zero, List.take_of_length_le (by rw [bl_len]; exact Nat.le_refl _)]), trivial⟩ rfl rfl rfl rfl ?_
        intro W hW
        refine l_storeA hW 2 tyA23 rfl rfl rfl rfl rfl rfl (by first | rfl | exact kc_len _ | exact kcf_len _ | (simp; done)) (by first | rfl | exact kc_len _ | exact kcf_len _ | (simp; done)) (by first | exact kc_one _ | exact kcf_one _ | (simp [Value.oneCell']; done)) ?_
        intro W hW
        refine l_val (r_assign (v := .int _ _) rfl rfl) rfl rfl ?_
        refine l_end ?_
        refine n_then ?_
        refine c_ret ?_
        refine ret_cell_tmp hW 2 tyA23 rfl rfl rfl (by first | rfl | exact kc_len _ | exact kcf_len _ | (simp; done)) rfl ?_
        exact ⟨by rw [hashV, if_neg hc1]; rfl, hW.below⟩

end Go.Proofs.Ytlabfinhdidmaaa
