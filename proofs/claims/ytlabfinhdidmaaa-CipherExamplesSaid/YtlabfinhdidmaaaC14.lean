/- Streams of the program. -/
import Derived.Test.YtlabfinhdidmaaaFacts
import Derived.Test.YtlabfinhdidmaaaVals
import Derived.Test.YtlabfinhdidmaaaC13
import Derived.Test.YtlabfinhdidmaaaVals3
namespace Go.Proofs.Ytlabfinhdidmaaa
open Go.RowKit Pl

set_option maxRecDepth 10000 in
/-- headend/cipher.Stream -/
theorem x_StreamB (k : Kw) (m : W64) (a : Option Addr) (c : Nat) (l : Bs8) (_ : l.length ≤ c) (hb : 16384 < l.length) : GivesX Try.prog 31 [keyV k, U64 m, .slice a l.length c].toArray (fun w => Rd w a (bl l)) (fun v Bs => v = .tuple #[.slice none 0 0, .int .i64 4] ∧ Bs = []) := by
  refine givesX_of Try.func31 rfl (bs := [keyV k, U64 m, .slice a l.length c, undef, undef, undef, undef, undef, undef, undef, undef, undef, undef, undef, undef, undef, undef, undef, undef, undef, undef, undef, undef, undef, undef, undef, undef, undef, undef, undef, undef, undef, undef, undef, undef, undef, undef, undef, undef, undef, undef, undef, undef, undef, undef, undef]) rfl ?_
  intro w hP hW
  refine c_seq ?_
  refine c_reg ?_
  refine l_box hW rfl rfl rfl rfl ?_
  intro g1 W hW
  refine l_val (r_assign (v := .slice _ _ _) rfl rfl) rfl rfl ?_
  refine l_val (r_assign (v := .int _ _) rfl rfl) rfl rfl ?_
  refine l_end ?_
  refine n_then ?_
  refine c_seq ?_
  refine c_seq ?_
  refine c_reg ?_
  refine l_val (r_move (v := .slice _ _ _) rfl rfl) rfl rfl ?_
  refine l_val (r_lenSlice Try.underlying37 rfl rfl) rfl rfl ?_
  refine l_val (r_gtrN (b := true) (n := 16384) rfl rfl rfl (decide_eq_true (by omega))) rfl rfl ?_
  refine l_end ?_
  refine n_then ?_
  refine c_true rfl ?_
  refine c_seq ?_
  refine c_reg ?_
  refine l_val (r_assign (v := .slice _ _ _) rfl rfl) rfl rfl ?_
  refine l_val (r_assign (v := .int _ _) rfl rfl) rfl rfl ?_
  refine l_end ?_
  refine n_then ?_
  refine c_ret ?_
  refine r_then ?_
  refine ret_tmp2 rfl rfl rfl ?_
  exact ⟨_, [], rfl, ⟨rfl, rfl⟩, hW.drop 1⟩

set_option maxRecDepth 10000 in
/-- headend/cipher.Stream -/
theorem x_StreamS (k : Kw) (m : W64) (a : Option Addr) (c : Nat) (l : Bs8) (_ : l.length ≤ c) (hb : ¬ 16384 < l.length) : GivesX Try.prog 31 [keyV k, U64 m, .slice a l.length c].toArray (fun w => Rd w a (bl l)) (fun v Bs => ∃ go, v = .tuple #[.slice (some ⟨go, 0, none⟩) l.length l.length, .int .i64 0] ∧ Bs = [⟨go, bl (stream k m l), 5⟩]) := by
  refine givesX_of Try.func31 rfl (bs := [keyV k, U64 m, .slice a l.length c, undef, undef, undef, undef, undef, undef, undef, undef, undef, undef, undef, undef, undef, undef, undef, undef, undef, undef, undef, undef, undef, undef, undef, undef, undef, undef, undef, undef, undef, undef, undef, undef, undef, undef, undef, undef, undef, undef, undef, undef, undef, undef, undef]) rfl ?_
  intro w hP hW
  refine c_seq ?_
  refine c_reg ?_
  refine l_box hW rfl rfl rfl rfl ?_
  intro g1 W hW
  refine l_val (r_assign (v := .slice _ _ _) rfl rfl) rfl rfl ?_
  refine l_val (r_assign (v := .int _ _) rfl rfl) rfl rfl ?_
  refine l_end ?_
  refine n_then ?_
  refine c_seq ?_
  refine c_seq ?_
  refine c_reg ?_
  refine l_val (r_move (v := .slice _ _ _) rfl rfl) rfl rfl ?_
  refine l_val (r_lenSlice Try.underlying37 rfl rfl) rfl rfl ?_
  refine l_val (r_gtrN (b := false) (n := 16384) rfl rfl rfl (decide_eq_false (by omega))) rfl rfl ?_
  refine l_end ?_
  refine n_then ?_
  refine c_false rfl ?_
  refine c_skip ?_
  refine n_then ?_
  refine c_seq ?_
  refine c_reg ?_
  refine l_val (r_move (v := .slice _ _ _) rfl rfl) rfl rfl ?_
  refine l_val (r_lenSlice Try.underlying37 rfl rfl) rfl rfl ?_
  refine l_makeSlice hW tyE37 (z := .int .u8 0) (v := .int .u8 0) (n := l.length) (k := l.length) tyZE37 rfl rfl rfl rfl rfl rfl (by omega) (by decide) (Nat.mul_one _) ?_
  intro go W hW
  refine l_val (r_assign (v := .slice _ _ _) rfl rfl) rfl rfl ?_
  refine l_end ?_
  refine n_then ?_
  refine c_seq ?_
  refine c_reg ?_
  refine l_alloc hW tyZ23 rfl rfl rfl ?_
  intro g2 W hW
  refine l_end ?_
  refine n_then ?_
  refine c_seq ?_
  refine c_seq ?_
  refine c_reg ?_
  refine l_val (r_move (v := .slice _ _ _) rfl rfl) rfl rfl ?_
  refine l_val (r_lenSlice Try.underlying37 rfl rfl) rfl rfl ?_
  refine l_val (r_move (v := .int _ _) rfl rfl) rfl rfl ?_
  refine l_end ?_
  refine n_then ?_
  refine c_block ?_
  refine c_loop (fun (i : Nat) (j : Nat → Value) => [keyV k, U64 m, .slice a l.length c, .pointer (some ⟨g1, 0, none⟩), j 4, j 5, j 6, .int .i64 0, .slice (some ⟨go, 0, none⟩) l.length l.length, .pointer (some ⟨g2, 0, none⟩), j 10, j 11, .slice a l.length c, j 13, .bool false, .slice a l.length c, j 16, .slice (some ⟨go, 0, none⟩) l.length l.length, .slice a l.length c, .int .i64 (l.length : Int), .int .i64 (i : Int), j 21, j 22, j 23, j 24, j 25, j 26, j 27, j 28, j 29, j 30, j 31, j 32, j 33, j 34, j 35, j 36, j 37, j 38, j 39, j 40, j 41, j 42, j 43, j 44, j 45]) (fun (i : Nat) => [⟨g2, kc (maskAt k m i), 23⟩, ⟨go, bl (strTo k m l i), 5⟩, ⟨g1, kc k, 23⟩]) (fun (i : Nat) => i ≤ l.length) (fun (i : Nat) => l.length - i) 0 (by kernel_rfl) (hW.to (by rw [strTo_zero, maskAt_zero]; rfl)) (Nat.zero_le _) ?_
  intro i j W hx hW
  refine c_seq ?_
  refine c_reg ?_
  refine l_val (r_lssN rfl rfl rfl rfl) rfl rfl ?_
  refine l_split ?_ ?_
  · intro hc1
    replace hc1 := of_decide_eq_true hc1
    have hlt : i < l.length := by omega
    obtain ⟨b0, o0, rfl⟩ := rd_ptr hP (by omega)
    refine l_end ?_
    refine n_then ?_
    refine c_seq ?_
    refine c_true rfl ?_
    refine c_skip ?_
    refine n_then ?_
    refine c_seq ?_
    refine c_block ?_
    refine c_seq ?_
    refine c_reg ?_
    refine l_val (r_move (v := .int _ _) rfl rfl) rfl rfl ?_
    refine l_val (r_indexAddrSl2 Try.underlying37 tyC5.size rfl rfl rfl (by omega)) rfl rfl ?_
    refine l_loadF hW tyC5 (rd_cell hP hlt) rfl rfl rfl rfl ?_
    refine l_val (r_assign (v := .int _ _) rfl rfl) rfl rfl ?_
    refine l_val (r_assign (v := .int _ _) rfl rfl) rfl rfl ?_
    refine l_end ?_
    refine n_then ?_
    refine c_seq ?_
    refine c_seq ?_
    refine c_reg ?_
    refine l_val (r_move (v := .int _ _) rfl rfl) rfl rfl ?_
    refine l_val (r_remN (n := 16) rfl rfl rfl (by omega)) rfl rfl ?_
    refine l_val (r_eqlN (n := 0) rfl rfl rfl rfl) rfl rfl ?_
    refine l_split ?_ ?_
    · intro hc2
      replace hc2 := of_decide_eq_true hc2
      refine l_end ?_
      refine n_then ?_
      refine c_true rfl ?_
      refine c_regY hW [0] [.q, .q, .q, .q, .q, .q, .q, .s] [0, 0, 2, 6, 0, 30, 63, 127] (by kernel_rfl) (by kernel_rfl) ?_
      refine y_loadA 2 tyA23 rfl rfl rfl rfl rfl (by first | rfl | exact kc_len _ | exact kcf_len _ | (simp; done)) (by decide) ?_
      refine y_val (r_move (v := .int _ _) rfl rfl) rfl rfl ?_
      refine y_val (r_quoN (n := 16) rfl rfl rfl (by omega) (by omega)) rfl rfl ?_
      refine y_val (r_conv_i64_u64 Try.underlying3 Try.underlying31 rfl rfl) rfl rfl ?_
      refine y_val (r_move (v := .int _ _) rfl rfl) rfl rfl ?_
      refine y_call (g_blockOf 1 _ _) en43 rfl rfl rfl rfl ?_
      refine y_call (g_Encrypt _ _) en27 rfl rfl rfl rfl ?_
      refine y_storeA 0 tyA23 rfl rfl rfl rfl rfl rfl (by first | rfl | exact kc_len _ | exact kcf_len _ | (simp; done)) (by first | rfl | exact kc_len _ | exact kcf_len _ | (simp; done)) (by first | exact kc_one _ | exact kcf_one _ | (simp [Value.oneCell']; done)) (by decide) ?_
      refine y_end ?_
      intro W hW
      refine n_then ?_
      refine c_reg ?_
      refine l_val (r_move (v := .slice _ _ _) rfl rfl) rfl rfl ?_
      refine l_val (r_move (v := .int _ _) rfl rfl) rfl rfl ?_
      refine l_val (r_move (v := .int _ _) rfl rfl) rfl rfl ?_
      refine l_val (r_move (v := .int _ _) rfl rfl) rfl rfl ?_
      refine l_val (r_remN (n := 16) rfl rfl rfl (by omega)) rfl rfl ?_
      refine l_val (r_indexAddrArr1 (n := i % 16) Try.underlying23 tyC5.size rfl rfl rfl (by omega)) rfl rfl ?_
      refine l_loadC hW 0 tyC5 rfl rfl rfl rfl rfl (kc_get _ _ (by omega)) ?_
      refine l_val (r_xor_u8 rfl rfl rfl) rfl rfl ?_
      refine l_val (r_indexAddrSl1 Try.underlying37 tyC5.size rfl rfl rfl (by omega)) rfl rfl ?_
      refine l_storeC hW 1 tyC5 (v := .int _ _) rfl rfl rfl rfl rfl rfl (by rw [bl_len, strTo_len]; omega) rfl ?_
      intro W hW
      refine l_end ?_
      refine n_block ?_
      refine n_then ?_
      refine c_reg ?_
      refine l_val (r_addN (n := 1) rfl rfl rfl (by omega)) rfl rfl ?_
      refine l_val (r_move (v := .int _ _) rfl rfl) rfl rfl ?_
      refine l_end ?_
      refine n_then ?_
      exact loop_next (i + 1) (by kernel_rfl) (hW.to (by simp only [← strTo_set k m l hlt, maskAt_succ]; rfl)) (by omega) (by omega)
    · intro hc2
      replace hc2 := of_decide_eq_false hc2
      rw [maskAt_of k m hc2] at hW
      refine l_end ?_
      refine n_then ?_
      refine c_false rfl ?_
      refine c_skip ?_
      refine n_then ?_
      refine c_reg ?_
      refine l_val (r_move (v := .slice _ _ _) rfl rfl) rfl rfl ?_
      refine l_val (r_move (v := .int _ _) rfl rfl) rfl rfl ?_
      refine l_val (r_move (v := .int _ _) rfl rfl) rfl rfl ?_
      refine l_val (r_move (v := .int _ _) rfl rfl) rfl rfl ?_
      refine l_val (r_remN (n := 16) rfl rfl rfl (by omega)) rfl rfl ?_
      refine l_val (r_indexAddrArr1 (n := i % 16) Try.underlying23 tyC5.size rfl rfl rfl (by omega)) rfl rfl ?_
      refine l_loadC hW 0 tyC5 rfl rfl rfl rfl rfl (kc_get _ _ (by omega)) ?_
      refine l_val (r_xor_u8 rfl rfl rfl) rfl rfl ?_
      refine l_val (r_indexAddrSl1 Try.underlying37 tyC5.size rfl rfl rfl (by omega)) rfl rfl ?_
      refine l_storeC hW 1 tyC5 (v := .int _ _) rfl rfl rfl rfl rfl rfl (by rw [bl_len, strTo_len]; omega) rfl ?_
      intro W hW
      refine l_end ?_
      refine n_block ?_
      refine n_then ?_
      refine c_reg ?_
      refine l_val (r_addN (n := 1) rfl rfl rfl (by omega)) rfl rfl ?_
      refine l_val (r_move (v := .int _ _) rfl rfl) rfl rfl ?_
      refine l_end ?_
      refine n_then ?_
      exact loop_next (i + 1) (by kernel_rfl) (hW.to (by simp only [← strTo_set k m l hlt, maskAt_succ]; rfl)) (by omega) (by omega)
  · intro hc1
    replace hc1 := of_decide_eq_false hc1
    obtain rfl : i = l.length := by omega
    rw [strTo_all] at hW
    refine l_end ?_
    refine n_then ?_
    refine c_seq ?_
    refine c_false rfl ?_
    refine c_exit ?_
    refine x_then ?_
    refine x_then ?_
    refine x_hit ?_
    refine n_then ?_
    refine c_seq ?_
    refine c_reg ?_
    refine l_val (r_move (v := .slice _ _ _) rfl rfl) rfl rfl ?_
    refine l_val (r_assign (v := .slice _ _ _) rfl rfl) rfl rfl ?_
    refine l_val (r_assign (v := .int _ _) rfl rfl) rfl rfl ?_
    refine l_end ?_
    refine n_then ?_
    refine c_ret ?_
    refine ret_tmp2 rfl rfl rfl ?_
    exact ⟨_, [_], rfl, ⟨go, rfl, rfl⟩, (hW.drop 1).sub (List.sublist_append_left [_] [_])⟩

end Go.Proofs.Ytlabfinhdidmaaa
