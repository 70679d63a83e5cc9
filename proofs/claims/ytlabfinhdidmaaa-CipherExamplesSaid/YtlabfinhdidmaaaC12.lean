/- MACs and digests. -/
import Derived.Test.YtlabfinhdidmaaaFacts
import Derived.Test.YtlabfinhdidmaaaVals
import Derived.Test.YtlabfinhdidmaaaC11
import Derived.Test.YtlabfinhdidmaaaVals2
namespace Go.Proofs.Ytlabfinhdidmaaa
open Go.RowKit Pl

set_option maxRecDepth 10000 in
/-- headend/headendref02.Tag -/
theorem g_Tag (k : Kw) (a : Option Addr) (n c : Nat) (l : Bs8) (hl : l.length = n) (hcap : n ≤ c) (hmax : n ≤ 16384) : GivesR Try.prog 62 [keyV k, .slice a n c].toArray (fun w => Rd w a (bl l)) (keyV (mac k l)) := by
  refine givesR_of Try.func62 rfl (bs := [keyV k, .slice a n c, undef, undef, undef, undef, undef, undef, undef, undef, undef, undef, undef, undef, undef, undef, undef, undef, undef, undef, undef, undef, undef, undef, undef, undef]) rfl ?_
  intro w hP hW
  subst hl
  have hnp : nport l.length ≤ 1025 := by unfold nport; omega
  refine c_seq ?_
  refine c_reg ?_
  refine l_box hW rfl rfl rfl rfl ?_
  intro g1 W hW
  refine l_alloc hW tyZ23 rfl rfl rfl ?_
  intro g2 W hW
  refine l_end ?_
  refine n_then ?_
  refine c_seq ?_
  refine c_reg ?_
  refine l_loadA hW 1 tyA23 rfl rfl rfl rfl rfl (by first | rfl | exact kc_len _ | exact kcf_len _ | (simp; done)) ?_
  refine l_val (r_move (v := .slice _ _ _) rfl rfl) rfl rfl ?_
  refine l_val (r_lenSlice Try.underlying37 rfl rfl) rfl rfl ?_
  refine l_val (r_conv_i64_u64 Try.underlying3 Try.underlying31 rfl rfl) rfl rfl ?_
  refine l_call hW (g_rDerive _ 2 _) en24 rfl rfl rfl rfl ?_
  intro W hW
  refine l_alloc hW tyZ23 rfl rfl rfl ?_
  intro g3 W hW
  refine l_storeA hW 0 tyA23 rfl rfl rfl rfl rfl rfl (by first | rfl | exact kc_len _ | exact kcf_len _ | (simp; done)) (by first | rfl | exact kc_len _ | exact kcf_len _ | (simp; done)) (by first | exact kc_one _ | exact kcf_one _ | (simp [Value.oneCell']; done)) ?_
  intro W hW
  refine l_end ?_
  refine n_then ?_
  refine c_seq ?_
  refine c_seq ?_
  refine c_reg ?_
  refine l_val (r_assign (v := .int _ _) rfl rfl) rfl rfl ?_
  refine l_end ?_
  refine n_then ?_
  refine c_block ?_
  refine c_loop (fun (i : Nat) (j : Nat → Value) => [keyV k, .slice a l.length c, .pointer (some ⟨g1, 0, none⟩), j 3, .pointer (some ⟨g2, 0, none⟩), .pointer (some ⟨g3, 0, none⟩), .int .i64 (i : Int), j 7, .slice a l.length c, j 9, j 10, j 11, j 12, j 13, j 14, j 15, j 16, j 17, j 18, j 19, j 20, j 21, j 22, j 23, j 24, j 25]) (fun (i : Nat) => [⟨g3, kc (foldTo (macStep k) (derive k 2 (BitVec.ofNat 64 l.length)) l i), 23⟩, ⟨g2, z23, 23⟩, ⟨g1, kc k, 23⟩]) (fun (i : Nat) => i ≤ nport l.length) (fun (i : Nat) => nport l.length - i) 0 (by kernel_rfl) hW (Nat.zero_le _) ?_
  intro i j W hx hW
  refine c_seq ?_
  refine c_seq ?_
  refine c_reg ?_
  refine l_val (r_move (v := .int _ _) rfl rfl) rfl rfl ?_
  refine l_val (r_move (v := .slice _ _ _) rfl rfl) rfl rfl ?_
  refine l_call hW (g_portions _ _ _ (by omega)) en56 rfl rfl rfl rfl ?_
  intro W hW
  refine l_val (r_lssN rfl rfl rfl rfl) rfl rfl ?_
  refine l_split ?_ ?_
  · intro hc1
    replace hc1 := of_decide_eq_true hc1
    refine l_end ?_
    refine n_then ?_
    refine c_true rfl ?_
    refine c_skip ?_
    refine n_then ?_
    refine c_seq ?_
    refine c_block ?_
    refine c_regY hW [0] [.q, .r, .q, .q, .q, .q, .q, .s] [0, 0, 0, 0, 12, 30, 63, 127] (by kernel_rfl) (by kernel_rfl) ?_
    refine y_loadA 2 tyA23 rfl rfl rfl rfl rfl (by first | rfl | exact kc_len _ | exact kcf_len _ | (simp; done)) (by decide) ?_
    refine y_loadA1 0 tyA23 rfl rfl rfl rfl rfl (by first | rfl | exact kc_len _ | exact kcf_len _ | (simp; done)) ?_
    refine y_val (r_move (v := .slice _ _ _) rfl rfl) rfl rfl ?_
    refine y_val (r_move (v := .int _ _) rfl rfl) rfl rfl ?_
    refine y_callR (g_portion a l.length c l rfl (by omega) i (by simp only [nport] at hc1; omega) hcap) en58 (fun L2 w hs hC => hP.past hC.below) rfl rfl rfl rfl ?_
    refine y_call (g_rXor _ _) en57 rfl rfl rfl rfl ?_
    refine y_call (g_rEncrypt _ _) en28 rfl rfl rfl rfl ?_
    refine y_storeA 0 tyA23 rfl rfl rfl rfl rfl rfl (by first | rfl | exact kc_len _ | exact kcf_len _ | (simp; done)) (by first | rfl | exact kc_len _ | exact kcf_len _ | (simp; done)) (by first | exact kc_one _ | exact kcf_one _ | (simp [Value.oneCell']; done)) (by decide) ?_
    refine y_end ?_
    intro W hW
    refine n_block ?_
    refine n_then ?_
    refine c_reg ?_
    refine l_val (r_move (v := .int _ _) rfl rfl) rfl rfl ?_
    refine l_val (r_addN (n := 1) rfl rfl rfl (by omega)) rfl rfl ?_
    refine l_val (r_assign (v := .int _ _) rfl rfl) rfl rfl ?_
    refine l_end ?_
    refine n_then ?_
    exact loop_next (i + 1) (by kernel_rfl) hW (by omega) (by omega)
  · intro hc1
    replace hc1 := of_decide_eq_false hc1
    obtain rfl : i = nport l.length := by omega
    refine l_end ?_
    refine n_then ?_
    refine c_false rfl ?_
    refine c_exit ?_
    refine x_then ?_
    refine x_then ?_
    refine x_hit ?_
    refine n_then ?_
    refine c_seq ?_
    refine c_reg ?_
    refine l_loadA hW 0 tyA23 rfl rfl rfl rfl rfl (by first | rfl | exact kc_len _ | exact kcf_len _ | (simp; done)) ?_
    refine l_storeA hW 1 tyA23 rfl rfl rfl rfl rfl rfl (by first | rfl | exact kc_len _ | exact kcf_len _ | (simp; done)) (by first | rfl | exact kc_len _ | exact kcf_len _ | (simp; done)) (by first | exact kc_one _ | exact kcf_one _ | (simp [Value.oneCell']; done)) ?_
    intro W hW
    refine l_end ?_
    refine n_then ?_
    refine c_ret ?_
    refine ret_cell hW 1 tyA23 rfl rfl rfl (by first | rfl | exact kc_len _ | exact kcf_len _ | (simp; done)) ?_
    exact ⟨rfl, hW.below⟩

set_option maxRecDepth 10000 in
/-- headend/headendref02.Pad -/
theorem x_Pad (n : Nat) (hn : n ≤ 4294967296) : GivesX Try.prog 70 [.int .i64 (n : Int)].toArray (fun _ => True) (NewSl 5 1 (zc n + 9) (bl (pad n))) := by
  refine givesX_of Try.func70 rfl (bs := [.int .i64 (n : Int), undef, undef, undef, undef, undef, undef, undef, undef, undef, undef, undef, undef, undef, undef, undef, undef, undef, undef, undef]) rfl ?_
  intro w hP hW
  refine c_seq ?_
  refine c_reg ?_
  refine l_val (r_assign (v := .slice _ _ _) rfl rfl) rfl rfl ?_
  refine l_end ?_
  refine n_then ?_
  refine c_seq ?_
  refine c_reg ?_
  refine l_buildSlice1 (v := .int _ _) hW Try.underlying37 tyC5 tyZ5 rfl rfl rfl rfl rfl ?_
  intro gq W hW
  refine l_val (r_assign (v := .slice _ _ _) rfl rfl) rfl rfl ?_
  refine l_end ?_
  refine n_then ?_
  refine c_seq ?_
  refine c_block ?_
  refine c_loop (fun (x : Nat × Option Addr × Nat × List Blk) (j : Nat → Value) => [.int .i64 (n : Int), j 1, j 2, .slice x.2.1 (x.1 + 1) x.2.2.1, j 4, j 5, j 6, j 7, j 8, j 9, j 10, j 11, j 12, j 13, j 14, j 15, j 16, j 17, j 18, j 19]) (fun (x : Nat × Option Addr × Nat × List Blk) => [] ++ x.2.2.2) (fun (x : Nat × Option Addr × Nat × List Blk) => x.1 ≤ zc n ∧ OwnSl 5 1 x.2.1 (x.1 + 1) x.2.2.1 (bl (padTo x.1)) x.2.2.2) (fun (x : Nat × Option Addr × Nat × List Blk) => zc n - x.1) (0, some ⟨gq, 0, none⟩, 1, [⟨gq, [B8 128#8], 5⟩]) (by kernel_rfl) hW ⟨Nat.zero_le _, OwnSl.full rfl (by show 1 ≤ maxLen; decide)⟩ ?_
  intro x j W hx hW
  obtain ⟨k, a, c, Bs⟩ := x
  have hk : k ≤ zc n := hx.1
  have hO : OwnSl 5 1 a (k + 1) c (bl (padTo k)) Bs := hx.2
  have hz : zc n ≤ 15 := by unfold zc; omega
  replace hW : Cl (base w) ([] ++ Bs) W := hW
  refine c_seq ?_
  refine c_seq ?_
  refine c_reg ?_
  refine l_val (r_move (v := .int _ _) rfl rfl) rfl rfl ?_
  refine l_val (r_move (v := .slice _ _ _) rfl rfl) rfl rfl ?_
  refine l_val (r_lenSlice Try.underlying37 rfl rfl) rfl rfl ?_
  refine l_val (r_addN (m := n) (n := k + 1) rfl rfl rfl (by omega)) rfl rfl ?_
  refine l_val (r_addN (m := n + (k + 1)) (n := 8) rfl rfl rfl (by omega)) rfl rfl ?_
  refine l_val (r_remN (m := n + (k + 1) + 8) (n := 16) rfl rfl rfl (by omega)) rfl rfl ?_
  refine l_val (r_neqN (m := (n + (k + 1) + 8) % 16) (n := 0) rfl rfl rfl rfl) rfl rfl ?_
  refine l_split ?_ ?_
  · intro hc1
    replace hc1 := of_decide_eq_true hc1
    have hk1 : k + 1 ≤ zc n := by unfold zc at hk ⊢; omega
    refine l_end ?_
    refine n_then ?_
    refine c_true rfl ?_
    refine c_skip ?_
    refine n_then ?_
    refine c_block ?_
    refine c_reg ?_
    refine l_val (r_move (v := .slice _ _ _) rfl rfl) rfl rfl ?_
    refine l_buildSlice1 (v := .int _ _) hW Try.underlying37 tyC5 tyZ5 rfl rfl rfl rfl rfl ?_
    intro gr W hW
    refine l_appendO tyE37 (L := []) hO (OwnSl.full (g := gr) (n := 1) (vs := [B8 0#8]) rfl (by decide)) (hW.perm (List.perm_append_singleton _ _).symm) (N := k + 1 + 1) rfl rfl rfl rfl rfl rfl (bl_one [0#8]) (by unfold maxLen; omega) (by omega) ?_
    intro a1 c1 Bs1 W hO1 hW
    rw [padB_succ] at hO1
    refine l_val (r_assign (v := .slice _ _ _) rfl rfl) rfl rfl ?_
    refine l_end ?_
    refine n_block ?_
    refine n_then ?_
    exact loop_next (k + 1, a1, c1, Bs1) (by kernel_rfl) hW ⟨hk1, hO1⟩ (by show zc n - (k + 1) < zc n - k; omega)
  · intro hc1
    replace hc1 := of_decide_eq_false hc1
    obtain rfl : k = zc n := by unfold zc at hk ⊢; omega
    refine l_end ?_
    refine n_then ?_
    refine c_false rfl ?_
    refine c_exit ?_
    refine x_then ?_
    refine x_then ?_
    refine x_hit ?_
    refine n_then ?_
    refine c_seq ?_
    refine c_reg ?_
    refine l_val (r_move (v := .slice _ _ _) rfl rfl) rfl rfl ?_
    refine l_val (r_move (v := .int _ _) rfl rfl) rfl rfl ?_
    refine l_val (r_conv_i64_u64 Try.underlying3 Try.underlying31 rfl rfl) rfl rfl ?_
    refine l_callX hW (g_Bytes (BitVec.ofNat 64 n) 8 (by decide)) en66 trivial rfl rfl rfl rfl ?_
    rintro _ Bs7 W ⟨a7, c7, rfl, hO7⟩ hW
    refine l_appendO tyE37 hO hO7 hW (N := zc n + 9) rfl rfl rfl rfl rfl rfl (bl_one _) (by unfold maxLen; omega) (by omega) ?_
    intro a9 c9 Bs9 W hO9 hW
    refine l_val (r_assign (v := .slice _ _ _) rfl rfl) rfl rfl ?_
    refine l_end ?_
    refine n_then ?_
    refine c_ret ?_
    refine ret_tmp (v := .slice _ _ _) rfl rfl ?_
    exact ⟨_, _, rfl, ⟨_, _, rfl, by rw [pad, bl_append]; exact hO9⟩, hW⟩

set_option maxRecDepth 10000 in
/-- headend/headendref02.Digest -/
theorem g_Digest (a : Option Addr) (n c : Nat) (l : Bs8) (hl : l.length = n) (hcap : n ≤ c) (hmax : n ≤ 16384) (hnil : a = none → n = 0 ∧ c = 0) : GivesR Try.prog 64 [.slice a n c].toArray (fun w => Rd w a (bl l)) (keyV (hash l)) := by
  refine givesR_of Try.func64 rfl (bs := [.slice a n c, undef, undef, undef, undef, undef, undef, undef, undef, undef, undef, undef, undef, undef, undef, undef, undef, undef, undef, undef, undef, undef, undef, undef, undef, undef, undef, undef, undef, undef, undef, undef, undef, undef, undef]) rfl ?_
  intro w hP hW
  subst hl
  have hz : zc l.length ≤ 15 := by unfold zc; omega
  have hA : (l ++ pad l.length).length = l.length + (zc l.length + 9) := by rw [List.length_append, pad_len]
  have hnp : nport (l ++ pad l.length).length ≤ 1030 := by unfold nport; omega
  refine c_seq ?_
  refine c_reg ?_
  refine l_alloc hW tyZ23 rfl rfl rfl ?_
  intro g1 W hW
  refine l_end ?_
  refine n_then ?_
  refine c_seq ?_
  refine c_reg ?_
  refine l_alloc hW tyZ23 rfl rfl rfl ?_
  intro g2 W hW
  refine l_end ?_
  refine n_then ?_
  refine c_seq ?_
  refine c_seq ?_
  refine c_reg ?_
  refine l_val (r_assign (v := .int _ _) rfl rfl) rfl rfl ?_
  refine l_end ?_
  refine n_then ?_
  refine c_block ?_
  refine c_loop (fun (i : Nat) (j : Nat → Value) => [.slice a l.length c, j 1, .pointer (some ⟨g1, 0, none⟩), .pointer (some ⟨g2, 0, none⟩), .int .i64 (i : Int), j 5, j 6, j 7, j 8, j 9, j 10, j 11, j 12, j 13, j 14, j 15, j 16, j 17, j 18, j 19, j 20, j 21, j 22, j 23, j 24, j 25, j 26, j 27, j 28, j 29, j 30, j 31, j 32, j 33, j 34]) (fun (i : Nat) => [⟨g2, kcf (upto (fun _ => 0x5a#8) i), 23⟩, ⟨g1, z23, 23⟩]) (fun (i : Nat) => i ≤ 16) (fun (i : Nat) => 16 - i) 0 (by kernel_rfl) (hW.to (by simp only [upto_zero]; rfl)) (by omega) ?_
  intro i j W hx hW
  refine c_seq ?_
  refine c_seq ?_
  refine c_reg ?_
  refine l_val (r_move (v := .int _ _) rfl rfl) rfl rfl ?_
  refine l_val (r_lssN (n := 16) rfl rfl rfl rfl) rfl rfl ?_
  refine l_split ?_ ?_
  · intro hc1
    replace hc1 := of_decide_eq_true hc1
    refine l_end ?_
    refine n_then ?_
    refine c_true rfl ?_
    refine c_skip ?_
    refine n_then ?_
    refine c_seq ?_
    refine c_block ?_
    refine c_reg ?_
    refine l_val (r_move (v := .int _ _) rfl rfl) rfl rfl ?_
    refine l_val (r_indexAddrArr1 Try.underlying23 tyC5.size rfl rfl rfl (by omega)) rfl rfl ?_
    refine l_storeC hW 0 tyC5 (v := .int _ _) rfl rfl rfl rfl rfl rfl (by rw [kcf_len]; omega) rfl ?_
    intro W hW
    refine l_end ?_
    refine n_block ?_
    refine n_then ?_
    refine c_reg ?_
    refine l_val (r_move (v := .int _ _) rfl rfl) rfl rfl ?_
    refine l_val (r_addN (n := 1) rfl rfl rfl (by omega)) rfl rfl ?_
    refine l_val (r_assign (v := .int _ _) rfl rfl) rfl rfl ?_
    refine l_end ?_
    refine n_then ?_
    exact loop_next (i + 1) (by kernel_rfl) (hW.to (by rw [← upto_set]; rfl)) (by omega) (by omega)
  · intro hc1
    replace hc1 := of_decide_eq_false hc1
    obtain rfl : i = 16 := by omega
    rw [kc_s5a] at hW
    refine l_end ?_
    refine n_then ?_
    refine c_false rfl ?_
    refine c_exit ?_
    refine x_then ?_
    refine x_then ?_
    refine x_hit ?_
    refine n_then ?_
    refine c_seq ?_
    refine c_reg ?_
    refine l_buildSliceF hW bsl37_0_ rfl rfl rfl rfl ?_
    intro gq W hW
    refine l_val (r_move (v := .slice _ _ _) rfl rfl) rfl rfl ?_
    refine l_appendR tyE37 (OwnSl.full (g := gq) (n := 0) (vs := []) rfl (by decide)) (hW.perm (List.perm_append_singleton _ _).symm) (hP.past hW.below) (N := l.length) (Nat.zero_add _) rfl rfl rfl rfl rfl (bl_len l) hnil (bl_one _) (by unfold maxLen; omega) (by omega) ?_
    intro a1 c1 Bs1 W hO1 hW
    rw [List.nil_append] at hO1
    refine l_val (r_assign (v := .slice _ _ _) rfl rfl) rfl rfl ?_
    refine l_end ?_
    refine n_then ?_
    refine c_seq ?_
    refine c_reg ?_
    refine l_val (r_move (v := .slice _ _ _) rfl rfl) rfl rfl ?_
    refine l_val (r_move (v := .slice _ _ _) rfl rfl) rfl rfl ?_
    refine l_val (r_lenSlice Try.underlying37 rfl rfl) rfl rfl ?_
    refine l_callX hW (x_Pad l.length (by omega)) en70 trivial rfl rfl rfl rfl ?_
    rintro _ Bs2 W ⟨a2, c2, rfl, hO2⟩ hW
    refine l_appendO tyE37 hO1 hO2 hW (N := (l ++ pad l.length).length) hA.symm rfl rfl rfl rfl rfl (bl_one _) (by unfold maxLen; omega) (by omega) ?_
    intro a3 c3 Bs3 W hO3 hW
    rw [← bl_append] at hO3
    obtain ⟨go, cur, rfl, rfl, hle, -, ht⟩ := hO3.row (by omega)
    refine l_val (r_assign (v := .slice _ _ _) rfl rfl) rfl rfl ?_
    refine l_end ?_
    refine n_then ?_
    refine c_seq ?_
    refine c_seq ?_
    refine c_reg ?_
    refine l_val (r_assign (v := .int _ _) rfl rfl) rfl rfl ?_
    refine l_end ?_
    refine n_then ?_
    refine c_block ?_
    refine c_loop (fun (i : Nat) (j : Nat → Value) => [.slice a l.length c, j 1, .pointer (some ⟨g1, 0, none⟩), .pointer (some ⟨g2, 0, none⟩), j 4, .slice (some ⟨go, 0, none⟩) (l ++ pad l.length).length c3, .int .i64 (i : Int), j 7, .bool false, j 9, j 10, j 11, j 12, j 13, .slice a l.length c, j 15, j 16, .slice a l.length c, j 18, j 19, j 20, j 21, j 22, j 23, j 24, j 25, j 26, j 27, j 28, j 29, j 30, j 31, j 32, j 33, j 34]) (fun (i : Nat) => [⟨g2, kc (foldTo hashStep s5a (l ++ pad l.length) i), 23⟩, ⟨g1, z23, 23⟩, ⟨go, cur, 5⟩]) (fun (i : Nat) => i ≤ nport (l ++ pad l.length).length) (fun (i : Nat) => nport (l ++ pad l.length).length - i) 0 (by kernel_rfl) hW (Nat.zero_le _) ?_
    intro i j W hx hW
    refine c_seq ?_
    refine c_seq ?_
    refine c_reg ?_
    refine l_val (r_move (v := .int _ _) rfl rfl) rfl rfl ?_
    refine l_val (r_move (v := .slice _ _ _) rfl rfl) rfl rfl ?_
    refine l_call hW (g_portions _ _ _ (by omega)) en56 rfl rfl rfl rfl ?_
    intro W hW
    refine l_val (r_lssN rfl rfl rfl rfl) rfl rfl ?_
    refine l_split ?_ ?_
    · intro hc2
      replace hc2 := of_decide_eq_true hc2
      refine l_end ?_
      refine n_then ?_
      refine c_true rfl ?_
      refine c_skip ?_
      refine n_then ?_
      refine c_seq ?_
      refine c_block ?_
      refine c_regY hW [0] [.q, .q, .q, .r, .q, .r, .q, .s] [0, 0, 3, 0, 15, 0, 63, 127] (by kernel_rfl) (by kernel_rfl) ?_
      refine y_val (r_move (v := .slice _ _ _) rfl rfl) rfl rfl ?_
      refine y_val (r_move (v := .int _ _) rfl rfl) rfl rfl ?_
      refine y_callR (g_portion _ _ _ (l ++ pad l.length) rfl (by omega) i (by simp only [nport] at hc2; omega) hle) en58 (fun L2 w hs hC => hC.rd 2 (hs 2 _ (by decide) rfl) 0 _ (by simpa using ht)) rfl rfl rfl rfl ?_
      refine y_loadA1 0 tyA23 rfl rfl rfl rfl rfl (by first | rfl | exact kc_len _ | exact kcf_len _ | (simp; done)) ?_
      refine y_call (g_rEncrypt _ _) en28 rfl rfl rfl rfl ?_
      refine y_loadA1 0 tyA23 rfl rfl rfl rfl rfl (by first | rfl | exact kc_len _ | exact kcf_len _ | (simp; done)) ?_
      refine y_call (g_rXor _ _) en57 rfl rfl rfl rfl ?_
      refine y_storeA 0 tyA23 rfl rfl rfl rfl rfl rfl (by first | rfl | exact kc_len _ | exact kcf_len _ | (simp; done)) (by first | rfl | exact kc_len _ | exact kcf_len _ | (simp; done)) (by first | exact kc_one _ | exact kcf_one _ | (simp [Value.oneCell']; done)) (by decide) ?_
      refine y_end ?_
      intro W hW
      refine n_block ?_
      refine n_then ?_
      refine c_reg ?_
      refine l_val (r_move (v := .int _ _) rfl rfl) rfl rfl ?_
      refine l_val (r_addN (n := 1) rfl rfl rfl (by omega)) rfl rfl ?_
      refine l_val (r_assign (v := .int _ _) rfl rfl) rfl rfl ?_
      refine l_end ?_
      refine n_then ?_
      exact loop_next (i + 1) (by kernel_rfl) hW (by omega) (by omega)
    · intro hc2
      replace hc2 := of_decide_eq_false hc2
      obtain rfl : i = nport (l ++ pad l.length).length := by omega
      refine l_end ?_
      refine n_then ?_
      refine c_false rfl ?_
      refine c_exit ?_
      refine x_then ?_
      refine x_then ?_
      refine x_hit ?_
      refine n_then ?_
      refine c_seq ?_
      refine c_reg ?_
      refine l_loadA hW 0 tyA23 rfl rfl rfl rfl rfl (by first | rfl | exact kc_len _ | exact kcf_len _ | (simp; done)) ?_
      refine l_storeA hW 1 tyA23 rfl rfl rfl rfl rfl rfl (by first | rfl | exact kc_len _ | exact kcf_len _ | (simp; done)) (by first | rfl | exact kc_len _ | exact kcf_len _ | (simp; done)) (by first | exact kc_one _ | exact kcf_one _ | (simp [Value.oneCell']; done)) ?_
      intro W hW
      refine l_end ?_
      refine n_then ?_
      refine c_ret ?_
      refine ret_cell hW 1 tyA23 rfl rfl rfl (by first | rfl | exact kc_len _ | exact kcf_len _ | (simp; done)) ?_
      exact ⟨rfl, hW.below⟩

set_option maxRecDepth 10000 in
/-- headend/headendref02.Mac -/
theorem g_rMac (k : Kw) (a : Option Addr) (n c : Nat) (l : Bs8) (hl : l.length = n) (hcap : n ≤ c) : GivesR Try.prog 34 [keyV k, .slice a n c].toArray (fun w => Rd w a (bl l)) (macV k l) := by
  refine givesR_of Try.func34 rfl (bs := [keyV k, .slice a n c, undef, undef, undef, undef, undef, undef, undef, undef, undef, undef, undef]) rfl ?_
  intro w hP hW
  subst hl
  refine c_seq ?_
  refine c_reg ?_
  refine l_box hW rfl rfl rfl rfl ?_
  intro g1 W hW
  refine l_alloc hW tyZ23 rfl rfl rfl ?_
  intro g2 W hW
  refine l_val (r_assign (v := .int _ _) rfl rfl) rfl rfl ?_
  refine l_end ?_
  refine n_then ?_
  refine c_seq ?_
  refine c_seq ?_
  refine c_reg ?_
  refine l_val (r_move (v := .slice _ _ _) rfl rfl) rfl rfl ?_
  refine l_val (r_lenSlice Try.underlying37 rfl rfl) rfl rfl ?_
  refine l_val (r_gtrN (n := 16384) rfl rfl rfl rfl) rfl rfl ?_
  refine l_split ?_ ?_
  · intro hc1
    replace hc1 := of_decide_eq_true hc1
    refine l_end ?_
    refine n_then ?_
    refine c_true rfl ?_
    refine c_seq ?_
    refine c_reg ?_
    refine l_val (r_build (ps := []) (bld23_) rfl rfl) rfl rfl ?_
    refine l_storeA hW 0 tyA23 rfl rfl rfl rfl rfl rfl (by first | rfl | exact kc_len _ | exact kcf_len _ | (simp; done)) (by first | rfl | exact kc_len _ | exact kcf_len _ | (simp; done)) (by first | exact kc_one _ | exact kcf_one _ | (simp [Value.oneCell']; done)) ?_
    intro W hW
    refine l_val (r_assign (v := .int _ _) rfl rfl) rfl rfl ?_
    refine l_end ?_
    refine n_then ?_
    refine c_ret ?_
    refine r_then ?_
    refine ret_cell_tmp hW 0 tyA23 rfl rfl rfl (by first | rfl | exact kc_len _ | exact kcf_len _ | (simp; done)) rfl ?_
    exact ⟨by rw [macV, if_pos hc1, noKey_eq]; rfl, hW.below⟩
  · intro hc1
    replace hc1 := of_decide_eq_false hc1
    refine l_end ?_
    refine n_then ?_
    refine c_false rfl ?_
    refine c_skip ?_
    refine n_then ?_
    refine c_seq ?_
    refine c_reg ?_
    refine l_loadA hW 1 tyA23 rfl rfl rfl rfl rfl (by first | rfl | exact kc_len _ | exact kcf_len _ | (simp; done)) ?_
    refine l_val (r_move (v := .slice _ _ _) rfl rfl) rfl rfl ?_
    refine l_callR hW (g_Tag k a l.length c l rfl hcap (by omega)) en62 (hP.past hW.below) rfl rfl rfl rfl ?_
    intro W hW
    refine l_storeA hW 0 tyA23 rfl rfl rfl rfl rfl rfl (by first | rfl | exact kc_len _ | exact kcf_len _ | (simp; done)) (by first | rfl | exact kc_len _ | exact kcf_len _ | (simp; done)) (by first | exact kc_one _ | exact kcf_one _ | (simp [Value.oneCell']; done)) ?_
    intro W hW
    refine l_val (r_assign (v := .int _ _) rfl rfl) rfl rfl ?_
    refine l_end ?_
    refine n_then ?_
    refine c_ret ?_
    refine ret_cell_tmp hW 0 tyA23 rfl rfl rfl (by first | rfl | exact kc_len _ | exact kcf_len _ | (simp; done)) rfl ?_
    exact ⟨by rw [macV, if_neg hc1]; rfl, hW.below⟩

set_option maxRecDepth 10000 in
/-- headend/headendref02.Hash -/
theorem g_rHash (a : Option Addr) (n c : Nat) (l : Bs8) (hl : l.length = n) (hcap : n ≤ c) (hnil : a = none → n = 0 ∧ c = 0) : GivesR Try.prog 36 [.slice a n c].toArray (fun w => Rd w a (bl l)) (hashV l) := by
  refine givesR_of Try.func36 rfl (bs := [.slice a n c, undef, undef, undef, undef, undef, undef, undef, undef, undef]) rfl ?_
  intro w hP hW
  subst hl
  refine c_seq ?_
  refine c_reg ?_
  refine l_alloc hW tyZ23 rfl rfl rfl ?_
  intro g1 W hW
  refine l_val (r_assign (v := .int _ _) rfl rfl) rfl rfl ?_
  refine l_end ?_
  refine n_then ?_
  refine c_seq ?_
  refine c_seq ?_
  refine c_reg ?_
  refine l_val (r_move (v := .slice _ _ _) rfl rfl) rfl rfl ?_
  refine l_val (r_lenSlice Try.underlying37 rfl rfl) rfl rfl ?_
  refine l_val (r_gtrN (n := 16384) rfl rfl rfl rfl) rfl rfl ?_
  refine l_split ?_ ?_
  · intro hc1
    replace hc1 := of_decide_eq_true hc1
    refine l_end ?_
    refine n_then ?_
    refine c_true rfl ?_
    refine c_seq ?_
    refine c_reg ?_
    refine l_val (r_build (ps := []) (bld23_) rfl rfl) rfl rfl ?_
    refine l_storeA hW 0 tyA23 rfl rfl rfl rfl rfl rfl (by first | rfl | exact kc_len _ | exact kcf_len _ | (simp; done)) (by first | rfl | exact kc_len _ | exact kcf_len _ | (simp; done)) (by first | exact kc_one _ | exact kcf_one _ | (simp [Value.oneCell']; done)) ?_
    intro W hW
    refine l_val (r_assign (v := .int _ _) rfl rfl) rfl rfl ?_
    refine l_end ?_
    refine n_then ?_
    refine c_ret ?_
    refine r_then ?_
    refine ret_cell_tmp hW 0 tyA23 rfl rfl rfl (by first | rfl | exact kc_len _ | exact kcf_len _ | (simp; done)) rfl ?_
    exact ⟨by rw [hashV, if_pos hc1, noKey_eq]; rfl, hW.below⟩
  · intro hc1
    replace hc1 := of_decide_eq_false hc1
    refine l_end ?_
    refine n_then ?_
    refine c_false rfl ?_
    refine c_skip ?_
    refine n_then ?_
    refine c_seq ?_
    refine c_reg ?_
    refine l_val (r_move (v := .slice _ _ _) rfl rfl) rfl rfl ?_
    refine l_callR hW (g_Digest a l.length c l rfl hcap (by omega) hnil) en64 (hP.past hW.below) rfl rfl rfl rfl ?_
    intro W hW
    refine l_storeA hW 0 tyA23 rfl rfl rfl rfl rfl rfl (by first | rfl | exact kc_len _ | exact kcf_len _ | (simp; done)) (by first | rfl | exact kc_len _ | exact kcf_len _ | (simp; done)) (by first | exact kc_one _ | exact kcf_one _ | (simp [Value.oneCell']; done)) ?_
    intro W hW
    refine l_val (r_assign (v := .int _ _) rfl rfl) rfl rfl ?_
    refine l_end ?_
    refine n_then ?_
    refine c_ret ?_
    refine ret_cell_tmp hW 0 tyA23 rfl rfl rfl (by first | rfl | exact kc_len _ | exact kcf_len _ | (simp; done)) rfl ?_
    exact ⟨by rw [hashV, if_neg hc1]; rfl, hW.below⟩

set_option maxRecDepth 10000 in
/-- headend/cipher.Mac -/
theorem g_Mac (k : Kw) (a : Option Addr) (n c : Nat) (l : Bs8) (hl : l.length = n) (hcap : n ≤ c) : GivesR Try.prog 33 [keyV k, .slice a n c].toArray (fun w => Rd w a (bl l)) (macV k l) := by
  refine givesR_of Try.func33 rfl (bs := [keyV k, .slice a n c, undef, undef, undef, undef, undef, undef, undef, undef, undef, undef, undef, undef, undef, undef, undef, undef, undef, undef]) rfl ?_
  intro w hP hW
  subst hl
  refine c_seq ?_
  refine c_reg ?_
  refine l_box hW rfl rfl rfl rfl ?_
  intro g1 W hW
  refine l_alloc hW tyZ23 rfl rfl rfl ?_
  intro g2 W hW
  refine l_val (r_assign (v := .int _ _) rfl rfl) rfl rfl ?_
  refine l_end ?_
  refine n_then ?_
  refine c_seq ?_
  refine c_seq ?_
  refine c_reg ?_
  refine l_val (r_move (v := .slice _ _ _) rfl rfl) rfl rfl ?_
  refine l_val (r_lenSlice Try.underlying37 rfl rfl) rfl rfl ?_
  refine l_val (r_gtrN (n := 16384) rfl rfl rfl rfl) rfl rfl ?_
  refine l_split ?_ ?_
  · intro hc1
    replace hc1 := of_decide_eq_true hc1
    refine l_end ?_
    refine n_then ?_
    refine c_true rfl ?_
    refine c_seq ?_
    refine c_reg ?_
    refine l_val (r_build (ps := []) (bld23_) rfl rfl) rfl rfl ?_
    refine l_storeA hW 0 tyA23 rfl rfl rfl rfl rfl rfl (by first | rfl | exact kc_len _ | exact kcf_len _ | (simp; done)) (by first | rfl | exact kc_len _ | exact kcf_len _ | (simp; done)) (by first | exact kc_one _ | exact kcf_one _ | (simp [Value.oneCell']; done)) ?_
    intro W hW
    refine l_val (r_assign (v := .int _ _) rfl rfl) rfl rfl ?_
    refine l_end ?_
    refine n_then ?_
    refine c_ret ?_
    refine r_then ?_
    refine ret_cell_tmp hW 0 tyA23 rfl rfl rfl (by first | rfl | exact kc_len _ | exact kcf_len _ | (simp; done)) rfl ?_
    exact ⟨by rw [macV, if_pos hc1, noKey_eq]; rfl, hW.below⟩
  · intro hc1
    replace hc1 := of_decide_eq_false hc1
    refine l_end ?_
    refine n_then ?_
    refine c_false rfl ?_
    refine c_skip ?_
    refine n_then ?_
    refine c_seq ?_
    refine c_reg ?_
    refine l_loadA hW 1 tyA23 rfl rfl rfl rfl rfl (by first | rfl | exact kc_len _ | exact kcf_len _ | (simp; done)) ?_
    refine l_val (r_move (v := .slice _ _ _) rfl rfl) rfl rfl ?_
    refine l_val (r_lenSlice Try.underlying37 rfl rfl) rfl rfl ?_
    refine l_val (r_conv_i64_u64 Try.underlying3 Try.underlying31 rfl rfl) rfl rfl ?_
    refine l_call hW (g_Derive _ 2 _) en23 rfl rfl rfl rfl ?_
    intro W hW
    refine l_alloc hW tyZ23 rfl rfl rfl ?_
    intro g3 W hW
    refine l_storeA hW 0 tyA23 rfl rfl rfl rfl rfl rfl (by first | rfl | exact kc_len _ | exact kcf_len _ | (simp; done)) (by first | rfl | exact kc_len _ | exact kcf_len _ | (simp; done)) (by first | exact kc_one _ | exact kcf_one _ | (simp [Value.oneCell']; done)) ?_
    intro W hW
    refine l_end ?_
    refine n_then ?_
    refine c_seq ?_
    refine c_reg ?_
    refine l_loadA hW 0 tyA23 rfl rfl rfl rfl rfl (by first | rfl | exact kc_len _ | exact kcf_len _ | (simp; done)) ?_
    refine l_val (r_move (v := .slice _ _ _) rfl rfl) rfl rfl ?_
    refine l_val (r_closure (vs := [.pointer (some ⟨g1, 0, none⟩)]) rfl rfl) rfl rfl ?_
    refine l_callR hW (g_fold _ a l.length c l rfl (by omega) hcap 60 [.pointer (some ⟨g1, 0, none⟩)] (fun w => w.heap[g1]? = some (.cells (kc k).toArray 23 (0, 0))) (macStep k) (fun s p => g_Mac1 k s p g1) en60 (fun w W hb h => (hb.block g1 (Array.getElem?_eq_some_iff.1 h).1).trans h)) en59 ⟨hP.past hW.below, hW.at 2 rfl⟩ rfl rfl rfl rfl ?_
    intro W hW
    refine l_storeA hW 1 tyA23 rfl rfl rfl rfl rfl rfl (by first | rfl | exact kc_len _ | exact kcf_len _ | (simp; done)) (by first | rfl | exact kc_len _ | exact kcf_len _ | (simp; done)) (by first | exact kc_one _ | exact kcf_one _ | (simp [Value.oneCell']; done)) ?_
    intro W hW
    refine l_val (r_assign (v := .int _ _) rfl rfl) rfl rfl ?_
    refine l_end ?_
    refine n_then ?_
    refine c_ret ?_
    refine ret_cell_tmp hW 1 tyA23 rfl rfl rfl (by first | rfl | exact kc_len _ | exact kcf_len _ | (simp; done)) rfl ?_
    exact ⟨by rw [macV, if_neg hc1]; rfl, hW.below⟩

end Go.Proofs.Ytlabfinhdidmaaa
