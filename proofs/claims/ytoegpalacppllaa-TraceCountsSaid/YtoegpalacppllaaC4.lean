/- References of layer 2: words and blocks. -/
import Derived.Test.YtoegpalacppllaaFacts
import Derived.Test.YtoegpalacppllaaVals
import Derived.Test.YtoegpalacppllaaC3
namespace Go.Proofs.Ytoegpalacppllaa
open Go.RowKit Pl

set_option maxRecDepth 10000 in
/-- headend/headendref02.key -/
theorem g_key (g i n c : Nat) (f : Nat → BitVec 8) (hn : n ≤ 4294967296) : GivesR Try.prog 122 [.slice (some ⟨g, i, none⟩) n c].toArray (fun w => ∀ j, j < n → w.cell? ⟨g, i + j, none⟩ = some (B8 (f j))) (keyV (packK (upto f n))) := by
  refine givesR_of Try.func122 rfl (bs := [.slice (some ⟨g, i, none⟩) n c, undef, undef, undef, undef, undef, undef, undef, undef, undef, undef, undef, undef, undef, undef, undef, undef, undef, undef, undef, undef, undef]) rfl ?_
  intro w hP hW
  refine c_seq ?_
  refine c_reg ?_
  refine l_alloc hW tyZ37 rfl rfl rfl ?_
  intro g1 W hW
  refine l_end ?_
  refine n_then ?_
  refine c_seq ?_
  refine c_reg ?_
  refine l_alloc hW tyZ37 rfl rfl rfl ?_
  intro g2 W hW
  refine l_end ?_
  refine n_then ?_
  refine c_seq ?_
  refine c_seq ?_
  refine c_reg ?_
  refine l_val (r_assign (v := .int _ _) rfl rfl) rfl rfl ?_
  refine l_end ?_
  refine n_then ?_
  refine c_block ?_
  refine c_loop (fun (k : Nat) (j : Nat → Value) => [.slice (some ⟨g, i, none⟩) n c, j 1, .pointer (some ⟨g1, 0, none⟩), .pointer (some ⟨g2, 0, none⟩), .int .i64 (k : Int), j 5, j 6, j 7, j 8, j 9, j 10, j 11, j 12, j 13, j 14, j 15, j 16, j 17, j 18, j 19, j 20, j 21]) (fun (k : Nat) => [⟨g2, kcf (upto f k), 37⟩, ⟨g1, z37, 37⟩]) (fun (k : Nat) => k ≤ 16 ∧ k ≤ n) (fun (k : Nat) => 16 - k) 0 (by kernel_rfl) (hW.to (by simp only [upto_zero]; rfl)) (by omega) ?_
  intro k j W hx hW
  rcases (show k < 16 ∧ k < n ∨ k = 16 ∧ k ≤ n ∨ k < 16 ∧ k = n by omega) with h | h | h
  · skip
    refine c_seq ?_
    refine c_seq ?_
    refine c_reg ?_
    refine l_val (r_move (v := .int _ _) rfl rfl) rfl rfl ?_
    refine l_val (r_lssN (b := true) (n := 16) rfl rfl rfl (decide_eq_true (by omega))) rfl rfl ?_
    refine l_val (r_move (v := .bool _) rfl rfl) rfl rfl ?_
    refine l_valG (r_move (v := .int _ _) rfl rfl) (by kernel_rfl) rfl ?_
    refine l_valG (r_move (v := .slice _ _ _) rfl rfl) (by kernel_rfl) rfl ?_
    refine l_valG (r_lenSlice Try.underlying172 rfl rfl) (by kernel_rfl) rfl ?_
    refine l_valG (r_lssN (b := true) rfl rfl rfl (decide_eq_true (by omega))) (by kernel_rfl) rfl ?_
    refine l_val (r_pick (v := .bool _) rfl rfl rfl) rfl rfl ?_
    refine l_end ?_
    refine n_then ?_
    refine c_true rfl ?_
    refine c_skip ?_
    refine n_then ?_
    refine c_seq ?_
    refine c_block ?_
    refine c_reg ?_
    refine l_val (r_move (v := .int _ _) rfl rfl) rfl rfl ?_
    refine l_val (r_move (v := .slice _ _ _) rfl rfl) rfl rfl ?_
    refine l_val (r_move (v := .int _ _) rfl rfl) rfl rfl ?_
    refine l_val (r_indexAddrSl2 Try.underlying172 tyC5.size rfl rfl rfl (by omega)) rfl rfl ?_
    refine l_loadF hW tyC5 (hP k (by omega)) rfl rfl rfl rfl ?_
    refine l_val (r_indexAddrArr1 Try.underlying37 tyC5.size rfl rfl rfl (by omega)) rfl rfl ?_
    refine l_storeC hW 0 tyC5 (v := .int _ _) rfl rfl rfl rfl rfl rfl (by rw [kcf_len]; omega) rfl ?_
    intro W hW
    refine l_end ?_
    refine n_block ?_
    refine n_then ?_
    refine c_reg ?_
    refine l_val (r_move (v := .int _ _) rfl rfl) rfl rfl ?_
    refine l_val (r_addN (n := 1) rfl rfl rfl (by omega)) rfl rfl ?_
    refine l_val (r_assign (v := .int _ _) rfl rfl) rfl rfl ?_
    refine l_end ?_
    refine n_then ?_
    exact loop_next (k + 1) (by kernel_rfl) (hW.to (by simp only [← upto_set]; rfl)) (by omega) (by omega)
  · skip
    refine c_seq ?_
    refine c_seq ?_
    refine c_reg ?_
    refine l_val (r_move (v := .int _ _) rfl rfl) rfl rfl ?_
    refine l_val (r_lssN (b := false) (n := 16) rfl rfl rfl (decide_eq_false (by omega))) rfl rfl ?_
    refine l_val (r_move (v := .bool _) rfl rfl) rfl rfl ?_
    refine l_not (by kernel_rfl) rfl ?_
    refine l_not (by kernel_rfl) rfl ?_
    refine l_not (by kernel_rfl) rfl ?_
    refine l_not (by kernel_rfl) rfl ?_
    refine l_val (r_pick (v := .bool _) rfl rfl rfl) rfl rfl ?_
    refine l_end ?_
    refine n_then ?_
    refine c_false rfl ?_
    refine c_exit ?_
    refine x_then ?_
    refine x_then ?_
    refine x_hit ?_
    refine n_then ?_
    refine c_seq ?_
    refine c_reg ?_
    refine l_loadA hW 0 tyA37 rfl rfl rfl rfl rfl (by first | rfl | exact kc_len _ | exact kcf_len _ | (simp; done)) ?_
    refine l_storeA hW 1 tyA37 rfl rfl rfl rfl rfl rfl (by first | rfl | exact kc_len _ | exact kcf_len _ | (simp; done)) (by first | rfl | exact kc_len _ | exact kcf_len _ | (simp; done)) (by first | exact kc_one _ | exact kcf_one _ | (simp [Value.oneCell']; done)) ?_
    intro W hW
    refine l_end ?_
    refine n_then ?_
    refine c_ret ?_
    refine ret_cell hW 1 tyA37 rfl rfl rfl (by first | rfl | exact kc_len _ | exact kcf_len _ | (simp; done)) ?_
    exact ⟨by rw [← upto_fin f (k := k) (by omega)], hW.below⟩
  · skip
    refine c_seq ?_
    refine c_seq ?_
    refine c_reg ?_
    refine l_val (r_move (v := .int _ _) rfl rfl) rfl rfl ?_
    refine l_val (r_lssN (b := true) (n := 16) rfl rfl rfl (decide_eq_true (by omega))) rfl rfl ?_
    refine l_val (r_move (v := .bool _) rfl rfl) rfl rfl ?_
    refine l_valG (r_move (v := .int _ _) rfl rfl) (by kernel_rfl) rfl ?_
    refine l_valG (r_move (v := .slice _ _ _) rfl rfl) (by kernel_rfl) rfl ?_
    refine l_valG (r_lenSlice Try.underlying172 rfl rfl) (by kernel_rfl) rfl ?_
    refine l_valG (r_lssN (b := false) rfl rfl rfl (decide_eq_false (by omega))) (by kernel_rfl) rfl ?_
    refine l_val (r_pick (v := .bool _) rfl rfl rfl) rfl rfl ?_
    refine l_end ?_
    refine n_then ?_
    refine c_false rfl ?_
    refine c_exit ?_
    refine x_then ?_
    refine x_then ?_
    refine x_hit ?_
    refine n_then ?_
    refine c_seq ?_
    refine c_reg ?_
    refine l_loadA hW 0 tyA37 rfl rfl rfl rfl rfl (by first | rfl | exact kc_len _ | exact kcf_len _ | (simp; done)) ?_
    refine l_storeA hW 1 tyA37 rfl rfl rfl rfl rfl rfl (by first | rfl | exact kc_len _ | exact kcf_len _ | (simp; done)) (by first | rfl | exact kc_len _ | exact kcf_len _ | (simp; done)) (by first | exact kc_one _ | exact kcf_one _ | (simp [Value.oneCell']; done)) ?_
    intro W hW
    refine l_end ?_
    refine n_then ?_
    refine c_ret ?_
    refine ret_cell hW 1 tyA37 rfl rfl rfl (by first | rfl | exact kc_len _ | exact kcf_len _ | (simp; done)) ?_
    exact ⟨by rw [← upto_fin f (k := k) (by omega)], hW.below⟩

theorem g_key16 (g c : Nat) (p : Kw) : GivesR Try.prog 122 [.slice (some ⟨g, 0, none⟩) 16 c].toArray (fun w => ∀ j u, (bl (lowB p.1 8) ++ bl (lowB p.2 8))[j]? = some u → w.cell? ⟨g, 0 + j, none⟩ = some u) (keyV p) := by
  have h := g_key g 0 16 c (byt p) (by decide)
  rw [upto16] at h
  exact fun w hP => h w fun j hj => hP j _ (bl_byt p j hj)

set_option maxRecDepth 10000 in
/-- headend/headendref02.rotr -/
theorem g_rotr (x : W64) (n : Nat) (h0 : 0 < n) (hn : n < 64) : Gives Try.prog 93 [U64 x, .int .i64 (n : Int)].toArray (U64 (x.rotateRight n)) := by
  refine gives_of Try.func93 rfl (bs := [U64 x, .int .i64 (n : Int), undef, undef, undef, undef, undef, undef, undef, undef, undef, undef, undef]) rfl ?_
  intro w hW
  refine c_seq ?_
  refine c_reg ?_
  refine l_val (r_assign (v := .int _ _) rfl rfl) rfl rfl ?_
  refine l_end ?_
  refine n_then ?_
  refine c_seq ?_
  refine c_regY hW [] [.q, .q, .q, .q, .q, .q, .q, .q, .q] [0, 0, 3, 0, 0, 16, 56, 127, 255] (by kernel_rfl) (by kernel_rfl) ?_
  refine y_val (r_move (v := .int _ _) rfl rfl) rfl rfl ?_
  refine y_val (r_move (v := .int _ _) rfl rfl) rfl rfl ?_
  refine y_val (r_shr_u64 (s := n) rfl rfl rfl (by omega)) rfl rfl ?_
  refine y_val (r_move (v := .int _ _) rfl rfl) rfl rfl ?_
  refine y_val (r_move (v := .int _ _) rfl rfl) rfl rfl ?_
  refine y_val (r_subN (m := 64) rfl rfl rfl (by omega) (by omega)) rfl rfl ?_
  refine y_val (r_shl_u64 (s := 64 - n) rfl rfl rfl (by omega)) rfl rfl ?_
  refine y_val (r_or_u64 rfl rfl rfl) rfl rfl ?_
  refine y_val (r_assign (v := .int _ _) rfl rfl) rfl rfl ?_
  refine y_end ?_
  intro W hW
  refine n_then ?_
  refine c_ret ?_
  refine ret_tmp (v := U64 (x.rotateRight n)) rfl ?_ ⟨rfl, hW.below⟩
  rw [← shifts_rotR x n hn]; rfl

set_option maxRecDepth 10000 in
/-- headend/headendref02.rotl -/
theorem g_rotl (x : W64) (n : Nat) (h0 : 0 < n) (hn : n < 64) : Gives Try.prog 94 [U64 x, .int .i64 (n : Int)].toArray (U64 (x.rotateLeft n)) := by
  refine gives_of Try.func94 rfl (bs := [U64 x, .int .i64 (n : Int), undef, undef, undef, undef, undef, undef, undef]) rfl ?_
  intro w hW
  refine c_seq ?_
  refine c_reg ?_
  refine l_val (r_assign (v := .int _ _) rfl rfl) rfl rfl ?_
  refine l_end ?_
  refine n_then ?_
  refine c_seq ?_
  refine c_reg ?_
  refine l_val (r_move (v := .int _ _) rfl rfl) rfl rfl ?_
  refine l_val (r_move (v := .int _ _) rfl rfl) rfl rfl ?_
  refine l_val (r_subN (m := 64) rfl rfl rfl (by omega) (by omega)) rfl rfl ?_
  refine l_call hW (g_rotr x (64 - n) (by omega) (by omega)) en93 rfl rfl rfl rfl ?_
  intro W hW
  refine l_val (r_assign (v := .int _ _) rfl rfl) rfl rfl ?_
  refine l_end ?_
  refine n_then ?_
  refine c_ret ?_
  refine ret_tmp (v := U64 (x.rotateLeft n)) rfl ?_ ⟨rfl, hW.below⟩
  rw [← rotR_eq_rotL x n h0 hn]; rfl

set_option maxRecDepth 10000 in
/-- headend/headendref02.words -/
theorem g_words (k : Kw) : Gives Try.prog 91 [keyV k].toArray (.tuple #[U64 k.1, U64 k.2]) := by
  refine gives_of Try.func91 rfl (bs := [keyV k, undef, undef, undef, undef, undef, undef, undef]) rfl ?_
  intro w hW
  refine c_seq ?_
  refine c_reg ?_
  refine l_box hW rfl rfl rfl rfl ?_
  intro g1 W hW
  refine l_val (r_assign (v := .int _ _) rfl rfl) rfl rfl ?_
  refine l_val (r_assign (v := .int _ _) rfl rfl) rfl rfl ?_
  refine l_end ?_
  refine n_then ?_
  refine c_seq ?_
  refine c_regY hW [] [.q, .q, .q, .q, .q, .q] [0, 1, 0, 7, 15, 31] (by kernel_rfl) (by kernel_rfl) ?_
  refine y_val (r_sliceArrTo (h := 8) Try.underlying37 tyC5.size rfl rfl rfl (by omega)) rfl rfl ?_
  refine y_callR (g_Value g1 0 8 16 (byt k) (by decide)) en110 (fun L2 w hs hC j hj => by rw [cell_at (hC.at 0 (hs 0 _ (by simp) rfl))]; simpa using kc_get k j (by omega)) (by kernel_rfl) rfl rfl rfl ?_
  refine y_val (r_sliceArrFrom (l := 8) Try.underlying37 tyC5.size rfl rfl rfl (by omega)) rfl rfl ?_
  refine y_callR (g_Value g1 8 8 8 (fun j => byt k (8 + j)) (by decide)) en110 (fun L2 w hs hC j hj => by rw [cell_at (hC.at 0 (hs 0 _ (by simp) rfl))]; simpa using kc_get k (8 + j) (by omega)) (by kernel_rfl) rfl rfl rfl ?_
  refine y_val (r_assign (v := .int _ _) rfl rfl) rfl rfl ?_
  refine y_val (r_assign (v := .int _ _) rfl rfl) rfl rfl ?_
  refine y_end ?_
  intro W hW
  refine n_then ?_
  refine c_ret ?_
  refine ret_tmp2 rfl rfl rfl ?_
  exact ⟨by rw [← valTo_hi k, ← valTo_lo k]; rfl, hW.below⟩

set_option maxRecDepth 10000 in
/-- headend/headendref02.block -/
theorem g_rblock (x y : W64) : Gives Try.prog 95 [U64 x, U64 y].toArray (keyV (x, y)) := by
  refine gives_of Try.func95 rfl (bs := [U64 x, U64 y, undef, undef, undef, undef, undef, undef, undef, undef, undef]) rfl ?_
  intro w hW
  refine c_seq ?_
  refine c_reg ?_
  refine l_alloc hW tyZ37 rfl rfl rfl ?_
  intro g1 W hW
  refine l_end ?_
  refine n_then ?_
  refine c_seq ?_
  refine c_reg ?_
  refine l_val (r_move (v := .int _ _) rfl rfl) rfl rfl ?_
  refine l_callX hW (g_Bytes x 8 (by decide)) en123 trivial rfl rfl rfl rfl ?_
  rintro _ Bs1 W ⟨a1, c1, rfl, hO1⟩ hW
  refine l_val (r_move (v := .int _ _) rfl rfl) rfl rfl ?_
  refine l_callX hW (g_Bytes y 8 (by decide)) en123 trivial rfl rfl rfl rfl ?_
  rintro _ Bs2 W ⟨a2, c2, rfl, hO2⟩ hW
  refine l_appendO tyE172 hO1 hO2 hW (N := 16) rfl rfl rfl rfl rfl rfl (bl_one _) (by decide) (by decide) ?_
  intro a3 c3 Bs3 W hO3 hW
  obtain ⟨g3, rfl, hc3⟩ := hO3.cells (by decide) hW
  refine l_callR hW (g_key16 g3 c3 (x, y)) en122 hc3 rfl rfl rfl rfl ?_
  intro W hW
  replace hW := hW.sub (List.sublist_append_left _ _)
  refine l_storeA hW 0 tyA37 rfl rfl rfl rfl rfl rfl (by first | rfl | exact kc_len _ | exact kcf_len _ | (simp; done)) (by first | rfl | exact kc_len _ | exact kcf_len _ | (simp; done)) (by first | exact kc_one _ | exact kcf_one _ | (simp [Value.oneCell']; done)) ?_
  intro W hW
  refine l_end ?_
  refine n_then ?_
  refine c_ret ?_
  refine ret_cell hW 0 tyA37 rfl rfl rfl (by first | rfl | exact kc_len _ | exact kcf_len _ | (simp; done)) ?_
  exact ⟨rfl, hW.below⟩

end Go.Proofs.Ytoegpalacppllaa
