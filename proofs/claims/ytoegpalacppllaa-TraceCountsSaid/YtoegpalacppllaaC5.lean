/- References of layer 2: round keys, encryption, decryption. -/
import Derived.Test.YtoegpalacppllaaFacts
import Derived.Test.YtoegpalacppllaaVals
import Derived.Test.YtoegpalacppllaaC4
namespace Go.Proofs.Ytoegpalacppllaa
open Go.RowKit Pl

set_option maxRecDepth 10000 in
/-- headend/headendref02.roundKeys -/
theorem g_roundKeys (k : Kw) : GivesX Try.prog 92 [keyV k].toArray (fun _ => True) (NewSl 22 1 32 (wl (rk k) 32)) := by
  refine givesX_of Try.func92 rfl (bs := [keyV k, undef, undef, undef, undef, undef, undef, undef, undef, undef, undef, undef, undef, undef, undef, undef, undef, undef, undef, undef, undef, undef, undef, undef, undef, undef, undef, undef, undef, undef, undef, undef, undef, undef]) rfl ?_
  intro w hP hW
  refine c_seq ?_
  refine c_reg ?_
  refine l_box hW rfl rfl rfl rfl ?_
  intro g1 W hW
  refine l_val (r_assign (v := .slice _ _ _) rfl rfl) rfl rfl ?_
  refine l_end ?_
  refine n_then ?_
  refine c_seq ?_
  refine c_reg ?_
  refine l_loadA hW 0 tyA37 rfl rfl rfl rfl rfl (by first | rfl | exact kc_len _ | exact kcf_len _ | (simp; done)) ?_
  refine l_call hW (g_words _) en91 rfl rfl rfl rfl ?_
  intro W hW
  refine l_val (r_move (v := .tuple _) rfl rfl) rfl rfl ?_
  refine l_val (r_extract (v := .int _ _) rfl rfl rfl) rfl rfl ?_
  refine l_val (r_extract (v := .int _ _) rfl rfl rfl) rfl rfl ?_
  refine l_val (r_assign (v := .int _ _) rfl rfl) rfl rfl ?_
  refine l_val (r_assign (v := .int _ _) rfl rfl) rfl rfl ?_
  refine l_end ?_
  refine n_then ?_
  refine c_seq ?_
  refine c_reg ?_
  refine l_val (r_move (v := .int _ _) rfl rfl) rfl rfl ?_
  refine l_buildSlice1 (v := .int _ _) hW Try.underlying159 tyC22 tyZ22 rfl rfl rfl rfl rfl ?_
  intro gq W hW
  refine l_val (r_assign (v := .slice _ _ _) rfl rfl) rfl rfl ?_
  refine l_end ?_
  refine n_then ?_
  refine c_seq ?_
  refine c_seq ?_
  refine c_reg ?_
  refine l_val (r_assign (v := .int _ _) rfl rfl) rfl rfl ?_
  refine l_end ?_
  refine n_then ?_
  refine c_block ?_
  refine c_loop (fun (x : Nat × Option Addr × Nat × List Blk) (j : Nat → Value) => [keyV k, .pointer (some ⟨g1, 0, none⟩), j 2, U64 (rst k x.1).1, U64 (rst k x.1).2, .slice x.2.1 (x.1 + 1) x.2.2.1, .int .i64 (x.1 : Int), j 7, j 8, j 9, j 10, j 11, j 12, j 13, j 14, j 15, j 16, j 17, j 18, j 19, j 20, j 21, j 22, j 23, j 24, j 25, j 26, j 27, j 28, j 29, j 30, j 31, j 32, j 33]) (fun (x : Nat × Option Addr × Nat × List Blk) => [⟨g1, kc k, 37⟩] ++ x.2.2.2) (fun (x : Nat × Option Addr × Nat × List Blk) => x.1 ≤ 31 ∧ OwnSl 22 1 x.2.1 (x.1 + 1) x.2.2.1 (wl (rrk k) (x.1 + 1)) x.2.2.2) (fun (x : Nat × Option Addr × Nat × List Blk) => 31 - x.1) (0, some ⟨gq, 0, none⟩, 1, [⟨gq, [U64 k.2], 22⟩]) (by kernel_rfl) (hW.perm (List.Perm.swap _ _ _)) ⟨Nat.zero_le _, OwnSl.full rfl (by show 1 ≤ maxLen; decide)⟩ ?_
  intro x j W hx hW
  obtain ⟨hx, hO⟩ := hx
  rcases Nat.lt_or_ge x.1 31 with h8 | h8
  · skip
    refine c_seq ?_
    refine c_seq ?_
    refine c_reg ?_
    refine l_val (r_move (v := .int _ _) rfl rfl) rfl rfl ?_
    refine l_val (r_lssN (b := true) (n := 31) rfl rfl rfl (decide_eq_true (by omega))) rfl rfl ?_
    refine l_end ?_
    refine n_then ?_
    refine c_true rfl ?_
    refine c_skip ?_
    refine n_then ?_
    refine c_seq ?_
    refine c_block ?_
    refine c_seq ?_
    refine c_reg ?_
    refine l_val (r_move (v := .int _ _) rfl rfl) rfl rfl ?_
    refine l_val (r_move (v := .int _ _) rfl rfl) rfl rfl ?_
    refine l_call hW (g_rotr _ 8 (by decide) (by decide)) en93 rfl rfl rfl rfl ?_
    intro W hW
    refine l_val (r_add_u64 rfl rfl rfl) rfl rfl ?_
    refine l_val (r_move (v := .int _ _) rfl rfl) rfl rfl ?_
    refine l_val (r_conv_i64_u64 Try.underlying3 Try.underlying22 rfl rfl) rfl rfl ?_
    refine l_val (r_xor_u64 rfl rfl rfl) rfl rfl ?_
    refine l_val (r_assign (v := .int _ _) rfl rfl) rfl rfl ?_
    refine l_end ?_
    refine n_then ?_
    refine c_seq ?_
    refine c_reg ?_
    refine l_val (r_move (v := .int _ _) rfl rfl) rfl rfl ?_
    refine l_call hW (g_rotl _ 3 (by decide) (by decide)) en94 rfl rfl rfl rfl ?_
    intro W hW
    refine l_val (r_move (v := .int _ _) rfl rfl) rfl rfl ?_
    refine l_val (r_xor_u64 rfl rfl rfl) rfl rfl ?_
    refine l_val (r_assign (v := .int _ _) rfl rfl) rfl rfl ?_
    refine l_end ?_
    refine n_then ?_
    refine c_reg ?_
    refine l_val (r_move (v := .slice _ _ _) rfl rfl) rfl rfl ?_
    refine l_val (r_move (v := .int _ _) rfl rfl) rfl rfl ?_
    refine l_buildSlice1 (v := .int _ _) hW Try.underlying159 tyC22 tyZ22 rfl rfl rfl rfl rfl ?_
    intro gr W hW
    refine l_appendO tyE159 (L := [_]) hO (OwnSl.full (g := gr) (n := 1) (vs := [U64 (rrk k (x.1 + 1))]) rfl (by decide)) (hW.perm (List.perm_append_singleton _ _).symm) (N := x.1 + 1 + 1) rfl rfl rfl rfl rfl rfl (by simp [Value.oneCell']) (by unfold maxLen; omega) (by omega) ?_
    intro a1 c1 Bs1 W hO1 hW
    rw [wl_succ] at hO1
    refine l_val (r_assign (v := .slice _ _ _) rfl rfl) rfl rfl ?_
    refine l_end ?_
    refine n_block ?_
    refine n_then ?_
    refine c_reg ?_
    refine l_val (r_move (v := .int _ _) rfl rfl) rfl rfl ?_
    refine l_val (r_addN (n := 1) rfl rfl rfl (by omega)) rfl rfl ?_
    refine l_val (r_assign (v := .int _ _) rfl rfl) rfl rfl ?_
    refine l_end ?_
    refine n_then ?_
    exact loop_next (x.1 + 1, a1, c1, Bs1) (by kernel_rfl) hW ⟨by omega, hO1⟩ (by omega)
  · skip
    have e : x.1 = 31 := by omega
    rw [e] at hO
    refine c_seq ?_
    refine c_seq ?_
    refine c_reg ?_
    refine l_val (r_move (v := .int _ _) rfl rfl) rfl rfl ?_
    refine l_val (r_lssN (b := false) (n := 31) rfl rfl rfl (decide_eq_false (by omega))) rfl rfl ?_
    refine l_end ?_
    refine n_then ?_
    refine c_false rfl ?_
    refine c_exit ?_
    refine x_then ?_
    refine x_then ?_
    refine x_hit ?_
    refine n_then ?_
    refine c_seq ?_
    refine c_reg ?_
    refine l_val (r_move (v := .slice _ _ _) rfl rfl) rfl rfl ?_
    refine l_val (r_assign (v := .slice _ _ _) rfl rfl) rfl rfl ?_
    refine l_end ?_
    refine n_then ?_
    refine c_ret ?_
    refine ret_tmp (v := .slice _ _ _) rfl rfl ?_
    rw [rrk_eq] at hO
    exact ⟨_, _, rfl, ⟨_, _, by rw [e], hO⟩, hW.sub (List.sublist_append_right _ _)⟩

set_option maxRecDepth 10000 in
/-- headend/headendref02.Encrypt -/
theorem g_rEncrypt (k b : Kw) : Gives Try.prog 61 [keyV k, keyV b].toArray (keyV (enc k b)) := by
  refine gives_of Try.func61 rfl (bs := [keyV k, keyV b, undef, undef, undef, undef, undef, undef, undef, undef, undef, undef, undef, undef, undef, undef, undef, undef, undef, undef, undef, undef, undef, undef, undef, undef, undef, undef, undef, undef, undef, undef, undef, undef, undef, undef]) rfl ?_
  intro w hW
  refine c_seq ?_
  refine c_reg ?_
  refine l_box hW rfl rfl rfl rfl ?_
  intro g1 W hW
  refine l_box hW rfl rfl rfl rfl ?_
  intro g2 W hW
  refine l_alloc hW tyZ37 rfl rfl rfl ?_
  intro g3 W hW
  refine l_end ?_
  refine n_then ?_
  refine c_seq ?_
  refine c_reg ?_
  refine l_loadA hW 1 tyA37 rfl rfl rfl rfl rfl (by first | rfl | exact kc_len _ | exact kcf_len _ | (simp; done)) ?_
  refine l_call hW (g_words _) en91 rfl rfl rfl rfl ?_
  intro W hW
  refine l_val (r_move (v := .tuple _) rfl rfl) rfl rfl ?_
  refine l_val (r_extract (v := .int _ _) rfl rfl rfl) rfl rfl ?_
  refine l_val (r_extract (v := .int _ _) rfl rfl rfl) rfl rfl ?_
  refine l_val (r_assign (v := .int _ _) rfl rfl) rfl rfl ?_
  refine l_val (r_assign (v := .int _ _) rfl rfl) rfl rfl ?_
  refine l_end ?_
  refine n_then ?_
  refine c_seq ?_
  refine c_reg ?_
  refine l_loadA hW 2 tyA37 rfl rfl rfl rfl rfl (by first | rfl | exact kc_len _ | exact kcf_len _ | (simp; done)) ?_
  refine l_callX hW (g_roundKeys k) en92 trivial rfl rfl rfl rfl ?_
  rintro _ Bs1 W ⟨a1, c1, rfl, hO1⟩ hW
  obtain ⟨gq, cur, rfl, rfl, -, -, ht⟩ := hO1.row (by decide)
  have hv : ∀ i, i < 32 → cur[i]? = some (U64 (rk k i)) := fun i hi => take_get ht (wl_get (rk k) hi)
  refine l_val (r_assign (v := .slice _ _ _) rfl rfl) rfl rfl ?_
  refine l_end ?_
  refine n_then ?_
  refine c_seq ?_
  refine c_seq ?_
  refine c_reg ?_
  refine l_val (r_assign (v := .int _ _) rfl rfl) rfl rfl ?_
  refine l_end ?_
  refine n_then ?_
  refine c_block ?_
  refine c_loop (fun (i : Nat) (j : Nat → Value) => [keyV k, keyV b, .pointer (some ⟨g1, 0, none⟩), .pointer (some ⟨g2, 0, none⟩), .pointer (some ⟨g3, 0, none⟩), U64 (encTo k b i).1, U64 (encTo k b i).2, .slice (some ⟨gq, 0, none⟩) 32 c1, .int .i64 (i : Int), j 9, j 10, j 11, j 12, j 13, j 14, j 15, j 16, j 17, j 18, j 19, j 20, j 21, j 22, j 23, j 24, j 25, j 26, j 27, j 28, j 29, j 30, j 31, j 32, j 33, j 34, j 35]) (fun (i : Nat) => [⟨g3, z37, 37⟩, ⟨g2, kc b, 37⟩, ⟨g1, kc k, 37⟩, ⟨gq, cur, 22⟩]) (fun (i : Nat) => i ≤ 32) (fun (i : Nat) => 32 - i) 0 (by kernel_rfl) hW (by omega) ?_
  intro i j W hx hW
  rcases Nat.lt_or_ge i 32 with h8 | h8
  · skip
    refine c_seq ?_
    refine c_seq ?_
    refine c_reg ?_
    refine l_val (r_move (v := .int _ _) rfl rfl) rfl rfl ?_
    refine l_val (r_lssN (b := true) (n := 32) rfl rfl rfl (decide_eq_true (by omega))) rfl rfl ?_
    refine l_end ?_
    refine n_then ?_
    refine c_true rfl ?_
    refine c_skip ?_
    refine n_then ?_
    refine c_seq ?_
    refine c_block ?_
    refine c_seq ?_
    refine c_regY hW [] [.q, .q, .q, .q, .q, .q, .q, .q, .q, .q] [0, 1, 0, 7, 0, 0, 48, 112, 255, 511] (by kernel_rfl) (by kernel_rfl) ?_
    refine y_val (r_move (v := .int _ _) rfl rfl) rfl rfl ?_
    refine y_call (g_rotr _ 8 (by decide) (by decide)) en93 rfl rfl rfl rfl ?_
    refine y_val (r_move (v := .int _ _) rfl rfl) rfl rfl ?_
    refine y_val (r_add_u64 rfl rfl rfl) rfl rfl ?_
    refine y_val (r_move (v := .slice _ _ _) rfl rfl) rfl rfl ?_
    refine y_val (r_move (v := .int _ _) rfl rfl) rfl rfl ?_
    refine y_val (r_indexAddrSl1 Try.underlying159 tyC22.size rfl rfl rfl (by omega)) rfl rfl ?_
    refine y_loadC 3 tyC22 (v := U64 (rk k i)) (by kernel_rfl) rfl rfl rfl rfl (hv i h8) (by decide) ?_
    refine y_val (r_xor_u64 rfl rfl rfl) rfl rfl ?_
    refine y_val (r_assign (v := .int _ _) rfl rfl) rfl rfl ?_
    refine y_end ?_
    intro W hW
    refine n_then ?_
    refine c_reg ?_
    refine l_val (r_move (v := .int _ _) rfl rfl) rfl rfl ?_
    refine l_call hW (g_rotl _ 3 (by decide) (by decide)) en94 rfl rfl rfl rfl ?_
    intro W hW
    refine l_val (r_move (v := .int _ _) rfl rfl) rfl rfl ?_
    refine l_val (r_xor_u64 rfl rfl rfl) rfl rfl ?_
    refine l_val (r_assign (v := .int _ _) rfl rfl) rfl rfl ?_
    refine l_end ?_
    refine n_block ?_
    refine n_then ?_
    refine c_reg ?_
    refine l_val (r_move (v := .int _ _) rfl rfl) rfl rfl ?_
    refine l_val (r_addN (n := 1) rfl rfl rfl (by omega)) rfl rfl ?_
    refine l_val (r_assign (v := .int _ _) rfl rfl) rfl rfl ?_
    refine l_end ?_
    refine n_then ?_
    exact loop_next (i + 1) (by kernel_rfl) hW (by omega) (by omega)
  · skip
    obtain rfl : 32 = i := by omega
    refine c_seq ?_
    refine c_seq ?_
    refine c_reg ?_
    refine l_val (r_move (v := .int _ _) rfl rfl) rfl rfl ?_
    refine l_val (r_lssN (b := false) (n := 32) rfl rfl rfl (decide_eq_false (by omega))) rfl rfl ?_
    refine l_end ?_
    refine n_then ?_
    refine c_false rfl ?_
    refine c_exit ?_
    refine x_then ?_
    refine x_then ?_
    refine x_hit ?_
    refine n_then ?_
    refine c_seq ?_
    refine c_reg ?_
    refine l_val (r_move (v := .int _ _) rfl rfl) rfl rfl ?_
    refine l_val (r_move (v := .int _ _) rfl rfl) rfl rfl ?_
    refine l_call hW (g_rblock _ _) en95 rfl rfl rfl rfl ?_
    intro W hW
    refine l_storeA hW 0 tyA37 rfl rfl rfl rfl rfl rfl (by first | rfl | exact kc_len _ | exact kcf_len _ | (simp; done)) (by first | rfl | exact kc_len _ | exact kcf_len _ | (simp; done)) (by first | exact kc_one _ | exact kcf_one _ | (simp [Value.oneCell']; done)) ?_
    intro W hW
    refine l_end ?_
    refine n_then ?_
    refine c_ret ?_
    refine ret_cell hW 0 tyA37 rfl rfl rfl (by first | rfl | exact kc_len _ | exact kcf_len _ | (simp; done)) ?_
    exact ⟨rfl, hW.below⟩

end Go.Proofs.Ytoegpalacppllaa
