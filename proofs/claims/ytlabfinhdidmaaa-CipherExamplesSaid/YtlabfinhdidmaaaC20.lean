/- All portions of a row of bytes. -/
import Derived.Test.YtlabfinhdidmaaaFacts
import Derived.Test.YtlabfinhdidmaaaVals
import Derived.Test.YtlabfinhdidmaaaC19
import Derived.Test.YtlabfinhdidmaaaVals5
namespace Go.Proofs.Ytlabfinhdidmaaa
open Go.RowKit Pl

set_option maxRecDepth 10000 in
/-- headend/headendlaw02.portions -/
theorem x_lportions (a : Option Addr) (c : Nat) (l : Bs8) (hmax : l.length ≤ 65536) : GivesX Try.prog 38 [.slice a l.length c].toArray (fun w => Rd w a (bl l)) (fun v Bs => ∃ go, v = .slice (some ⟨go, 0, none⟩) (nport l.length) (nport l.length) ∧ Bs = [⟨go, pcs l (nport l.length) l.length, 23⟩]) := by
  refine givesX_of Try.func38 rfl (bs := [.slice a l.length c, undef, undef, undef, undef, undef, undef, undef, undef, undef, undef, undef, undef, undef, undef, undef, undef, undef, undef, undef, undef, undef, undef, undef, undef, undef, undef, undef]) rfl ?_
  intro w hP hW
  refine c_seq ?_
  refine c_reg ?_
  refine l_val (r_assign (v := .slice _ _ _) rfl rfl) rfl rfl ?_
  refine l_end ?_
  refine n_then ?_
  refine c_seq ?_
  refine c_reg ?_
  refine l_val (r_move (v := .slice _ _ _) rfl rfl) rfl rfl ?_
  refine l_val (r_lenSlice Try.underlying37 rfl rfl) rfl rfl ?_
  refine l_val (r_addN (n := 15) rfl rfl rfl (by omega)) rfl rfl ?_
  refine l_val (r_quoN (n := 16) rfl rfl rfl (by omega) (by omega)) rfl rfl ?_
  refine l_makeSlice hW tyE52 (z := .agg z23.toArray) (v := .int .u8 0) (n := nport l.length) (k := nport l.length * 16) tyZE52 rfl rfl rfl rfl rfl rfl (by unfold nport; omega) (by decide) rfl ?_
  intro go W hW
  refine l_val (r_assign (v := .slice _ _ _) rfl rfl) rfl rfl ?_
  refine l_end ?_
  refine n_then ?_
  refine c_seq ?_
  refine c_seq ?_
  refine c_reg ?_
  refine l_val (r_assign (v := .int _ _) rfl rfl) rfl rfl ?_
  refine l_end ?_
  refine n_then ?_
  refine c_block ?_
  refine c_loop (fun (i : Nat) (j : Nat → Value) => [.slice a l.length c, j 1, j 2, .slice (some ⟨go, 0, none⟩) (nport l.length) (nport l.length), .int .i64 (i : Int), .slice a l.length c, j 6, j 7, j 8, .slice (some ⟨go, 0, none⟩) (nport l.length) (nport l.length), j 10, j 11, j 12, j 13, j 14, j 15, j 16, j 17, j 18, j 19, j 20, j 21, j 22, j 23, j 24, j 25, j 26, j 27]) (fun (i : Nat) => [⟨go, pcs l (nport l.length) i, 23⟩]) (fun (i : Nat) => i ≤ l.length) (fun (i : Nat) => l.length - i) 0 (by kernel_rfl) (hW.to (by rw [pcs_zero])) (Nat.zero_le _) ?_
  intro i j W hx hW
  refine c_seq ?_
  refine c_seq ?_
  refine c_reg ?_
  refine l_val (r_move (v := .int _ _) rfl rfl) rfl rfl ?_
  refine l_val (r_move (v := .slice _ _ _) rfl rfl) rfl rfl ?_
  refine l_val (r_lenSlice Try.underlying37 rfl rfl) rfl rfl ?_
  refine l_val (r_lssN rfl rfl rfl rfl) rfl rfl ?_
  refine l_split ?_ ?_
  · intro hc1
    replace hc1 := of_decide_eq_true hc1
    have hlt : i < l.length := by omega
    have hlt2 : i < nport l.length * 16 := by unfold nport; omega
    obtain ⟨b0, o0, rfl⟩ := rd_ptr hP (by omega)
    refine l_end ?_
    refine n_then ?_
    refine c_true rfl ?_
    refine c_skip ?_
    refine n_then ?_
    refine c_seq ?_
    refine c_block ?_
    refine c_regY hW [0] [.q, .q, .q, .q, .q, .q, .q, .q, .q, .q, .q, .s] [0, 0, 2, 0, 8, 0, 0, 96, 224, 7, 1023, 2047] (by kernel_rfl) (by kernel_rfl) ?_
    refine y_val (r_move (v := .slice _ _ _) rfl rfl) rfl rfl ?_
    refine y_val (r_move (v := .int _ _) rfl rfl) rfl rfl ?_
    refine y_val (r_quoN (n := 16) rfl rfl rfl (by omega) (by omega)) rfl rfl ?_
    refine y_val (r_move (v := .int _ _) rfl rfl) rfl rfl ?_
    refine y_val (r_remN (n := 16) rfl rfl rfl (by omega)) rfl rfl ?_
    refine y_val (r_move (v := .slice _ _ _) rfl rfl) rfl rfl ?_
    refine y_val (r_move (v := .int _ _) rfl rfl) rfl rfl ?_
    refine y_val (r_indexAddrSl2 Try.underlying37 tyC5.size rfl rfl rfl hlt) rfl rfl ?_
    refine y_loadF tyC5 (rd_cell hP hlt) rfl rfl rfl rfl ?_
    refine y_val (r_indexAddrSl (n := i / 16) Try.underlying52 tyA23.size rfl rfl rfl (by unfold nport; omega)) rfl rfl ?_
    refine y_val (r_indexAddrArr Try.underlying23 tyC5.size rfl rfl rfl (by omega)) rfl rfl ?_
    refine y_storeC 0 tyC5 (v := .int _ _) rfl rfl rfl rfl rfl rfl (by rw [pcs_len]; omega) rfl (by decide) ?_
    refine y_end ?_
    intro W hW
    refine n_block ?_
    refine n_then ?_
    refine c_reg ?_
    refine l_val (r_move (v := .int _ _) rfl rfl) rfl rfl ?_
    refine l_val (r_addN (n := 1) rfl rfl rfl (by omega)) rfl rfl ?_
    refine l_val (r_assign (v := .int _ _) rfl rfl) rfl rfl ?_
    refine l_end ?_
    refine n_then ?_
    exact loop_next (i + 1) (by kernel_rfl) (hW.to (by rw [← pcs_set l _ hlt2]; exact congrArg (fun q => [(⟨go, (pcs l (nport l.length) i).set q (B8 (gb l i)), 23⟩ : Blk)]) (by omega))) (by omega) (by omega)
  · intro hc1
    replace hc1 := of_decide_eq_false hc1
    obtain rfl : i = l.length := by omega
    refine l_end ?_
    refine n_then ?_
    refine c_false rfl ?_
    refine c_exit ?_
    refine x_then ?_
    refine x_then ?_
    refine x_hit ?_
    refine n_then ?_
    refine c_seq ?_
    refine c_reg ?_
    refine l_val (r_move (v := .slice _ _ _) rfl rfl) rfl rfl ?_
    refine l_val (r_assign (v := .slice _ _ _) rfl rfl) rfl rfl ?_
    refine l_end ?_
    refine n_then ?_
    refine c_ret ?_
    refine ret_tmp (v := .slice _ _ _) rfl rfl ?_
    exact ⟨_, [_], rfl, ⟨go, rfl, rfl⟩, hW⟩

end Go.Proofs.Ytlabfinhdidmaaa
