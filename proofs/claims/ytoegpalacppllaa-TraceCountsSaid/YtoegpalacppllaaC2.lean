/- Words, blocks and rounds of package cipher. -/
import Derived.Test.YtoegpalacppllaaFacts
import Derived.Test.YtoegpalacppllaaVals
import Derived.Test.YtoegpalacppllaaC1
namespace Go.Proofs.Ytoegpalacppllaa
open Go.RowKit Pl

set_option maxRecDepth 10000 in
/-- headend/cipher.wordsOf -/
theorem g_wordsOf (k : Kw) : Gives Try.prog 86 [keyV k].toArray (pairV k) := by
  refine gives_of Try.func86 rfl (bs := [keyV k, undef, undef, undef, undef, undef, undef, undef, undef, undef, undef, undef, undef, undef, undef, undef, undef, undef, undef, undef, undef, undef, undef, undef, undef, undef, undef, undef, undef]) rfl ?_
  intro w hW
  refine c_seq ?_
  refine c_reg ?_
  refine l_box hW rfl rfl rfl rfl ?_
  intro g1 W hW
  refine l_alloc hW tyZ149 rfl rfl rfl ?_
  intro g2 W hW
  refine l_end ?_
  refine n_then ?_
  refine c_seq ?_
  refine c_reg ?_
  refine l_alloc hW tyZ149 rfl rfl rfl ?_
  intro g3 W hW
  refine l_end ?_
  refine n_then ?_
  refine c_seq ?_
  refine c_seq ?_
  refine c_reg ?_
  refine l_val (r_move (v := .int _ _) rfl rfl) rfl rfl ?_
  refine l_end ?_
  refine n_then ?_
  refine c_block ?_
  refine c_loop (fun (i : Nat) (j : Nat → Value) => [keyV k, .pointer (some ⟨g1, 0, none⟩), .pointer (some ⟨g2, 0, none⟩), .pointer (some ⟨g3, 0, none⟩), j 4, .int .i64 (i : Int), j 6, j 7, j 8, j 9, j 10, j 11, j 12, j 13, j 14, j 15, j 16, j 17, j 18, j 19, j 20, j 21, j 22, j 23, j 24, j 25, j 26, j 27, j 28]) (fun (i : Nat) => [⟨g3, [U64 (tp k.1 i), U64 (tp k.2 i)], 149⟩, ⟨g2, z149, 149⟩, ⟨g1, kc k, 37⟩]) (fun (i : Nat) => i ≤ 8) (fun (i : Nat) => 8 - i) 0 (by kernel_rfl) (hW.to (by simp only [tp_zero]; rfl)) (by omega) ?_
  intro i j W hx hW
  rcases Nat.lt_or_ge i 8 with h8 | h8
  · skip
    refine c_seq ?_
    refine c_reg ?_
    refine l_val (r_lssN (b := true) (n := 8) rfl rfl rfl (decide_eq_true (by omega))) rfl rfl ?_
    refine l_end ?_
    refine n_then ?_
    refine c_seq ?_
    refine c_true rfl ?_
    refine c_skip ?_
    refine n_then ?_
    refine c_seq ?_
    refine c_block ?_
    refine c_seq ?_
    refine c_reg ?_
    refine l_val (r_move (v := .int _ _) rfl rfl) rfl rfl ?_
    refine l_val (r_assign (v := .int _ _) rfl rfl) rfl rfl ?_
    refine l_end ?_
    refine n_then ?_
    refine c_regY hW [0] [.q, .r, .q, .q, .q, .q, .q, .q, .q, .r, .q, .q, .q, .q, .q, .q, .q, .q, .s, .q, .s] [0, 1, 3, 0, 8, 24, 56, 127, 0, 256, 768, 0, 2048, 6144, 14336, 30720, 65280, 1023, 132095, 524287, 1048575] (by kernel_rfl) (by kernel_rfl) ?_
    refine y_val (r_fieldAddr 0 Try.underlying149 rfl tyC22.size rfl rfl rfl) rfl rfl ?_
    refine y_loadC1 0 tyC22 rfl rfl rfl rfl rfl rfl ?_
    refine y_val (r_shl_u64 (s := 8) rfl rfl rfl (by omega)) rfl rfl ?_
    refine y_val (r_move (v := .int _ _) rfl rfl) rfl rfl ?_
    refine y_val (r_indexAddrArr1 Try.underlying37 tyC5.size rfl rfl rfl (by omega)) rfl rfl ?_
    refine y_loadC 2 tyC5 rfl rfl rfl rfl rfl (kc_get k _ (by omega)) (by decide) ?_
    refine y_val (r_conv_u8_u64 Try.underlying5 Try.underlying22 rfl rfl) rfl rfl ?_
    refine y_val (r_or_u64 rfl rfl rfl) rfl rfl ?_
    refine y_val (r_fieldAddr 1 Try.underlying149 rfl tyC22.size rfl rfl rfl) rfl rfl ?_
    refine y_loadC1 0 tyC22 rfl rfl rfl rfl rfl rfl ?_
    refine y_val (r_shl_u64 (s := 8) rfl rfl rfl (by omega)) rfl rfl ?_
    refine y_val (r_move (v := .int _ _) rfl rfl) rfl rfl ?_
    refine y_val (r_addN (m := 8) rfl rfl rfl (by omega)) rfl rfl ?_
    refine y_val (r_indexAddrArr1 Try.underlying37 tyC5.size rfl rfl rfl (by omega)) rfl rfl ?_
    refine y_loadC 2 tyC5 rfl rfl rfl rfl rfl (kc_get k _ (by omega)) (by decide) ?_
    refine y_val (r_conv_u8_u64 Try.underlying5 Try.underlying22 rfl rfl) rfl rfl ?_
    refine y_val (r_or_u64 rfl rfl rfl) rfl rfl ?_
    refine y_val (r_fieldAddr 0 Try.underlying149 rfl tyC22.size rfl rfl rfl) rfl rfl ?_
    refine y_storeC 0 tyC22 (v := .int _ _) rfl rfl rfl rfl rfl rfl (by first | rfl | omega | (simp; done) | (simp; omega)) rfl (by decide) ?_
    refine y_val (r_fieldAddr 1 Try.underlying149 rfl tyC22.size rfl rfl rfl) rfl rfl ?_
    refine y_storeC 0 tyC22 (v := .int _ _) rfl rfl rfl rfl rfl rfl (by first | rfl | omega | (simp; done) | (simp; omega)) rfl (by decide) ?_
    refine y_end ?_
    intro W hW
    refine n_block ?_
    refine n_then ?_
    refine c_reg ?_
    refine l_val (r_addN (n := 1) rfl rfl rfl (by omega)) rfl rfl ?_
    refine l_val (r_move (v := .int _ _) rfl rfl) rfl rfl ?_
    refine l_end ?_
    refine n_then ?_
    exact loop_next (i + 1) (by kernel_rfl) (hW.to (by simp only [← tp_succ1 k i h8, ← tp_succ2 k i h8]; rfl)) (by omega) (by omega)
  · skip
    obtain rfl : i = 8 := by omega
    refine c_seq ?_
    refine c_reg ?_
    refine l_val (r_lssN (b := false) (n := 8) rfl rfl rfl (decide_eq_false (by omega))) rfl rfl ?_
    refine l_end ?_
    refine n_then ?_
    refine c_seq ?_
    refine c_false rfl ?_
    refine c_exit ?_
    refine x_then ?_
    refine x_then ?_
    refine x_hit ?_
    refine n_then ?_
    refine c_seq ?_
    refine c_reg ?_
    refine l_loadA hW 0 tyA149 rfl rfl rfl rfl rfl (by first | rfl | exact kc_len _ | exact kcf_len _ | (simp; done)) ?_
    refine l_storeA hW 1 tyA149 rfl rfl rfl rfl rfl rfl (by first | rfl | exact kc_len _ | exact kcf_len _ | (simp; done)) (by first | rfl | exact kc_len _ | exact kcf_len _ | (simp; done)) (by first | exact kc_one _ | exact kcf_one _ | (simp [Value.oneCell']; done)) ?_
    intro W hW
    refine l_end ?_
    refine n_then ?_
    refine c_ret ?_
    refine ret_cell hW 1 tyA149 rfl rfl rfl (by first | rfl | exact kc_len _ | exact kcf_len _ | (simp; done)) ?_
    exact ⟨by simp only [tp_eight]; rfl, hW.below⟩

set_option maxRecDepth 10000 in
/-- (headend/cipher.pair).block -/
theorem g_block (x y : W64) : Gives Try.prog 89 [pairV (x, y)].toArray (keyV (x, y)) := by
  refine gives_of Try.func89 rfl (bs := [pairV (x, y), undef, undef, undef, undef, undef, undef, undef, undef, undef, undef, undef, undef, undef, undef, undef, undef, undef, undef, undef, undef, undef, undef, undef, undef, undef, undef, undef, undef]) rfl ?_
  intro w hW
  refine c_seq ?_
  refine c_reg ?_
  refine l_box hW rfl rfl rfl rfl ?_
  intro g1 W hW
  refine l_alloc hW tyZ37 rfl rfl rfl ?_
  intro g2 W hW
  refine l_end ?_
  refine n_then ?_
  refine c_seq ?_
  refine c_reg ?_
  refine l_alloc hW tyZ37 rfl rfl rfl ?_
  intro g3 W hW
  refine l_end ?_
  refine n_then ?_
  refine c_seq ?_
  refine c_seq ?_
  refine c_reg ?_
  refine l_val (r_move (v := .int _ _) rfl rfl) rfl rfl ?_
  refine l_end ?_
  refine n_then ?_
  refine c_block ?_
  refine c_loop (fun (i : Nat) (j : Nat → Value) => [pairV (x, y), .pointer (some ⟨g1, 0, none⟩), .pointer (some ⟨g2, 0, none⟩), .pointer (some ⟨g3, 0, none⟩), j 4, .int .i64 (i : Int), j 6, j 7, j 8, j 9, j 10, j 11, j 12, j 13, j 14, j 15, j 16, j 17, j 18, j 19, j 20, j 21, j 22, j 23, j 24, j 25, j 26, j 27, j 28]) (fun (i : Nat) => [⟨g3, kcf (bstf (x, y) i), 37⟩, ⟨g2, z37, 37⟩, ⟨g1, [U64 x, U64 y], 149⟩]) (fun (i : Nat) => i ≤ 8) (fun (i : Nat) => 8 - i) 0 (by kernel_rfl) (hW.to (by simp only [bst_zero]; rfl)) (by omega) ?_
  intro i j W hx hW
  rcases Nat.lt_or_ge i 8 with h8 | h8
  · skip
    refine c_seq ?_
    refine c_reg ?_
    refine l_val (r_lssN (b := true) (n := 8) rfl rfl rfl (decide_eq_true (by omega))) rfl rfl ?_
    refine l_end ?_
    refine n_then ?_
    refine c_seq ?_
    refine c_true rfl ?_
    refine c_skip ?_
    refine n_then ?_
    refine c_seq ?_
    refine c_block ?_
    refine c_seq ?_
    refine c_reg ?_
    refine l_val (r_move (v := .int _ _) rfl rfl) rfl rfl ?_
    refine l_val (r_assign (v := .int _ _) rfl rfl) rfl rfl ?_
    refine l_end ?_
    refine n_then ?_
    refine c_regY hW [0] [.q, .q, .q, .q, .q, .q, .q, .q, .q, .q, .q, .q, .q, .q, .q, .q, .q, .q, .s, .q, .s] [0, 0, 2, 0, 8, 0, 32, 96, 248, 504, 0, 1024, 0, 4096, 12288, 31744, 64512, 1017, 132089, 524287, 1048575] (by kernel_rfl) (by kernel_rfl) ?_
    refine y_val (r_move (v := .int _ _) rfl rfl) rfl rfl ?_
    refine y_val (r_move (v := .int _ _) rfl rfl) rfl rfl ?_
    refine y_val (r_addN (m := 8) rfl rfl rfl (by omega)) rfl rfl ?_
    refine y_val (r_fieldAddr 0 Try.underlying149 rfl tyC22.size rfl rfl rfl) rfl rfl ?_
    refine y_loadC 2 tyC22 rfl rfl rfl rfl rfl rfl (by decide) ?_
    refine y_val (r_move (v := .int _ _) rfl rfl) rfl rfl ?_
    refine y_val (r_mulN (m := 8) rfl rfl rfl (by omega)) rfl rfl ?_
    refine y_val (r_subN (m := 56) rfl rfl rfl (by omega) (by omega)) rfl rfl ?_
    refine y_val (r_shr_u64 rfl rfl rfl (by omega)) rfl rfl ?_
    refine y_val (r_conv_u64_u8 Try.underlying22 Try.underlying5 rfl rfl) rfl rfl ?_
    refine y_val (r_fieldAddr 1 Try.underlying149 rfl tyC22.size rfl rfl rfl) rfl rfl ?_
    refine y_loadC 2 tyC22 rfl rfl rfl rfl rfl rfl (by decide) ?_
    refine y_val (r_move (v := .int _ _) rfl rfl) rfl rfl ?_
    refine y_val (r_mulN (m := 8) rfl rfl rfl (by omega)) rfl rfl ?_
    refine y_val (r_subN (m := 56) rfl rfl rfl (by omega) (by omega)) rfl rfl ?_
    refine y_val (r_shr_u64 rfl rfl rfl (by omega)) rfl rfl ?_
    refine y_val (r_conv_u64_u8 Try.underlying22 Try.underlying5 rfl rfl) rfl rfl ?_
    refine y_val (r_indexAddrArr1 Try.underlying37 tyC5.size rfl rfl rfl (by omega)) rfl rfl ?_
    refine y_storeC 0 tyC5 (v := .int _ _) rfl rfl rfl rfl rfl rfl (by rw [kcf_len]; omega) rfl (by decide) ?_
    refine y_val (r_indexAddrArr1 Try.underlying37 tyC5.size rfl rfl rfl (by omega)) rfl rfl ?_
    refine y_storeC 0 tyC5 (v := .int _ _) rfl rfl rfl rfl rfl rfl (by rw [List.length_set, kcf_len]; omega) rfl (by decide) ?_
    refine y_end ?_
    intro W hW
    refine n_block ?_
    refine n_then ?_
    refine c_reg ?_
    refine l_val (r_addN (n := 1) rfl rfl rfl (by omega)) rfl rfl ?_
    refine l_val (r_move (v := .int _ _) rfl rfl) rfl rfl ?_
    refine l_end ?_
    refine n_then ?_
    exact loop_next (i + 1) (by kernel_rfl) (hW.to (by simp only [← bst_step (x, y) i h8]; rfl)) (by omega) (by omega)
  · skip
    obtain rfl : i = 8 := by omega
    rw [bst_eight] at hW
    refine c_seq ?_
    refine c_reg ?_
    refine l_val (r_lssN (b := false) (n := 8) rfl rfl rfl (decide_eq_false (by omega))) rfl rfl ?_
    refine l_end ?_
    refine n_then ?_
    refine c_seq ?_
    refine c_false rfl ?_
    refine c_exit ?_
    refine x_then ?_
    refine x_then ?_
    refine x_hit ?_
    refine n_then ?_
    refine c_seq ?_
    refine c_reg ?_
    refine l_loadA hW 0 tyA37 rfl rfl rfl rfl rfl (by first | rfl | exact kc_len _ | exact kcf_len _ | (simp; done)) ?_
    refine l_storeA hW 1 tyA37 rfl rfl rfl rfl rfl rfl (by first | rfl | exact kc_len _ | exact kcf_len _ | (simp; done)) (by first | rfl | exact kc_len _ | exact kcf_len _ | (simp; done)) (by first | exact kc_one _ | exact kcf_one _ | (simp [Value.oneCell']; done)) ?_
    intro W hW
    refine l_end ?_
    refine n_then ?_
    refine c_ret ?_
    refine ret_cell hW 1 tyA37 rfl rfl rfl (by first | rfl | exact kc_len _ | exact kcf_len _ | (simp; done)) ?_
    exact ⟨rfl, hW.below⟩

set_option maxRecDepth 10000 in
/-- (headend/cipher.pair).round -/
theorem g_round (x y k : W64) : Gives Try.prog 88 [pairV (x, y), U64 k].toArray (pairV (rnd (x, y) k)) := by
  refine gives_of Try.func88 rfl (bs := [pairV (x, y), U64 k, undef, undef, undef, undef, undef, undef, undef, undef, undef, undef, undef, undef, undef, undef, undef, undef, undef, undef, undef]) rfl ?_
  intro w hW
  refine c_seq ?_
  refine c_reg ?_
  refine l_box hW rfl rfl rfl rfl ?_
  intro g1 W hW
  refine l_alloc hW tyZ149 rfl rfl rfl ?_
  intro g2 W hW
  refine l_end ?_
  refine n_then ?_
  refine c_seq ?_
  refine c_regY hW [] [.q, .q, .q, .q, .q, .q, .q, .q, .q] [0, 1, 3, 0, 8, 31, 0, 127, 255] (by kernel_rfl) (by kernel_rfl) ?_
  refine y_val (r_fieldAddr 0 Try.underlying149 rfl tyC22.size rfl rfl rfl) rfl rfl ?_
  refine y_loadC 1 tyC22 rfl rfl rfl rfl rfl rfl (by decide) ?_
  refine y_call (g_rotm8 _) en121 rfl rfl rfl rfl ?_
  refine y_val (r_fieldAddr 1 Try.underlying149 rfl tyC22.size rfl rfl rfl) rfl rfl ?_
  refine y_loadC 1 tyC22 rfl rfl rfl rfl rfl rfl (by decide) ?_
  refine y_val (r_add_u64 rfl rfl rfl) rfl rfl ?_
  refine y_val (r_move (v := .int _ _) rfl rfl) rfl rfl ?_
  refine y_val (r_xor_u64 rfl rfl rfl) rfl rfl ?_
  refine y_val (r_assign (v := .int _ _) rfl rfl) rfl rfl ?_
  refine y_end ?_
  intro W hW
  refine n_then ?_
  refine c_seq ?_
  refine c_reg ?_
  refine l_val (r_move (v := .int _ _) rfl rfl) rfl rfl ?_
  refine l_val (r_fieldAddr 1 Try.underlying149 rfl tyC22.size rfl rfl rfl) rfl rfl ?_
  refine l_loadC hW 1 tyC22 rfl rfl rfl rfl rfl rfl ?_
  refine l_call hW (g_rot3 _) en121 rfl rfl rfl rfl ?_
  intro W hW
  refine l_val (r_move (v := .int _ _) rfl rfl) rfl rfl ?_
  refine l_val (r_xor_u64 rfl rfl rfl) rfl rfl ?_
  refine l_val (r_build (ps := [(0, .int _ _), (1, .int _ _)]) (bld149_0_1 _ _) rfl rfl) rfl rfl ?_
  refine l_storeA hW 0 tyA149 rfl rfl rfl rfl rfl rfl (by first | rfl | exact kc_len _ | exact kcf_len _ | (simp; done)) (by first | rfl | exact kc_len _ | exact kcf_len _ | (simp; done)) (by first | exact kc_one _ | exact kcf_one _ | (simp [Value.oneCell']; done)) ?_
  intro W hW
  refine l_end ?_
  refine n_then ?_
  refine c_ret ?_
  refine ret_cell hW 0 tyA149 rfl rfl rfl (by first | rfl | exact kc_len _ | exact kcf_len _ | (simp; done)) ?_
  exact ⟨rfl, hW.below⟩

set_option maxRecDepth 10000 in
/-- headend/cipher.blockOf -/
theorem g_blockOf (tag : BitVec 8) (c n : W64) : Gives Try.prog 90 [B8 tag, U64 c, U64 n].toArray (keyV (blk tag c n)) := by
  refine gives_of Try.func90 rfl (bs := [B8 tag, U64 c, U64 n, undef, undef, undef, undef, undef, undef, undef, undef, undef, undef, undef, undef]) rfl ?_
  intro w hW
  refine c_seq ?_
  refine c_reg ?_
  refine l_alloc hW tyZ37 rfl rfl rfl ?_
  intro g1 W hW
  refine l_end ?_
  refine n_then ?_
  refine c_seq ?_
  refine c_reg ?_
  refine l_val (r_move (v := .int _ _) rfl rfl) rfl rfl ?_
  refine l_val (r_conv_u8_u64 Try.underlying5 Try.underlying22 rfl rfl) rfl rfl ?_
  refine l_val (r_shl_u64 (s := 56) rfl rfl rfl (by omega)) rfl rfl ?_
  refine l_val (r_move (v := .int _ _) rfl rfl) rfl rfl ?_
  refine l_val (r_or_u64 rfl rfl rfl) rfl rfl ?_
  refine l_val (r_move (v := .int _ _) rfl rfl) rfl rfl ?_
  refine l_val (r_build (ps := [(0, .int _ _), (1, .int _ _)]) (bld149_0_1 _ _) rfl rfl) rfl rfl ?_
  refine l_call hW (g_block _ _) en89 rfl rfl rfl rfl ?_
  intro W hW
  refine l_storeA hW 0 tyA37 rfl rfl rfl rfl rfl rfl (by first | rfl | exact kc_len _ | exact kcf_len _ | (simp; done)) (by first | rfl | exact kc_len _ | exact kcf_len _ | (simp; done)) (by first | exact kc_one _ | exact kcf_one _ | (simp [Value.oneCell']; done)) ?_
  intro W hW
  refine l_end ?_
  refine n_then ?_
  refine c_ret ?_
  refine ret_cell hW 0 tyA37 rfl rfl rfl (by first | rfl | exact kc_len _ | exact kcf_len _ | (simp; done)) ?_
  exact ⟨rfl, hW.below⟩

end Go.Proofs.Ytoegpalacppllaa
