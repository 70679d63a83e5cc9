/- Digits. -/
import Derived.Test.YtlabfinhdidmaaaFacts
import Derived.Test.YtlabfinhdidmaaaVals
import Derived.Test.YtlabfinhdidmaaaC15
import Derived.Test.YtlabfinhdidmaaaVals4
namespace Go.Proofs.Ytlabfinhdidmaaa
open Go.RowKit Pl

set_option maxRecDepth 10000 in
/-- internal/stringslite.IndexByte -/
theorem g_slIndexByte (b : BitVec 8) : Gives Try.prog 65 [strV digs, B8 b].toArray (.int .i64 (idx16 b)) := by
  refine gives_of Try.func65 rfl (bs := [strV digs, B8 b, undef, undef, undef, undef, undef, undef]) rfl ?_
  intro w hW
  refine c_seq ?_
  refine c_reg ?_
  refine l_val (r_assign (v := .int _ _) rfl rfl) rfl rfl ?_
  refine l_end ?_
  refine n_then ?_
  refine c_seq ?_
  refine c_reg ?_
  refine l_val (r_move (v := .string _) rfl rfl) rfl rfl ?_
  refine l_val (r_move (v := .int _ _) rfl rfl) rfl rfl ?_
  refine l_val (run_extern (v := .int .i64 (idx16 b)) (args := [strV digs, B8 b]) (e := Extern.BytealgIndexByte.indexByte) Try.func71 (by kernel_rfl) rfl rfl rfl rfl rfl (run_idx b)) rfl rfl ?_
  refine l_val (r_assign (v := .int _ _) rfl rfl) rfl rfl ?_
  refine l_end ?_
  refine n_then ?_
  refine c_ret ?_
  refine ret_tmp (v := .int .i64 (idx16 b)) rfl ?_ ⟨rfl, hW.below⟩
  rfl

set_option maxRecDepth 10000 in
/-- strings.IndexByte -/
theorem g_IndexByte (b : BitVec 8) : Gives Try.prog 41 [strV digs, B8 b].toArray (.int .i64 (idx16 b)) := by
  refine gives_of Try.func41 rfl (bs := [strV digs, B8 b, undef, undef, undef, undef, undef, undef]) rfl ?_
  intro w hW
  refine c_seq ?_
  refine c_reg ?_
  refine l_val (r_assign (v := .int _ _) rfl rfl) rfl rfl ?_
  refine l_end ?_
  refine n_then ?_
  refine c_seq ?_
  refine c_reg ?_
  refine l_val (r_move (v := .string _) rfl rfl) rfl rfl ?_
  refine l_val (r_move (v := .int _ _) rfl rfl) rfl rfl ?_
  refine l_call hW (g_slIndexByte b) en65 rfl rfl rfl rfl ?_
  intro W hW
  refine l_val (r_assign (v := .int _ _) rfl rfl) rfl rfl ?_
  refine l_end ?_
  refine n_then ?_
  refine c_ret ?_
  refine ret_tmp (v := .int .i64 (idx16 b)) rfl ?_ ⟨rfl, hW.below⟩
  rfl

set_option maxRecDepth 10000 in
/-- headend/headendref02.digit -/
theorem g_digit (b : BitVec 8) : Gives Try.prog 42 [B8 b].toArray (.int .i64 (dval b : Int)) := by
  refine gives_of Try.func42 rfl (bs := [B8 b, undef, undef, undef, undef, undef, undef, undef, undef, undef, undef, undef, undef]) rfl ?_
  intro w hW
  refine c_seq ?_
  refine c_reg ?_
  refine l_val (r_assign (v := .int _ _) rfl rfl) rfl rfl ?_
  refine l_end ?_
  refine n_then ?_
  refine c_seq ?_
  refine c_seq ?_
  refine c_reg ?_
  refine l_val (r_assign (v := .int _ _) rfl rfl) rfl rfl ?_
  refine l_end ?_
  refine n_then ?_
  refine c_block ?_
  refine c_loop (fun (i : Nat) (j : Nat → Value) => [B8 b, j 1, j 2, .int .i64 (i : Int), j 4, j 5, j 6, j 7, j 8, j 9, j 10, j 11, j 12]) (fun (i : Nat) => []) (fun (i : Nat) => i ≤ 16 ∧ ∀ j, j < i → dig j ≠ b) (fun (i : Nat) => 16 - i) 0 (by kernel_rfl) hW ⟨by omega, fun j hj => by omega⟩ ?_
  intro i j W hx hW
  obtain ⟨hi, hno⟩ := hx
  refine c_seq ?_
  refine c_seq ?_
  refine c_reg ?_
  refine l_val (r_move (v := .int _ _) rfl rfl) rfl rfl ?_
  refine l_val (r_lssN (n := 16) rfl rfl rfl rfl) rfl rfl ?_
  refine l_split ?_ ?_
  · intro hc1
    replace hc1 := of_decide_eq_true hc1
    refine l_end ?_
    refine n_then ?_
    refine c_true rfl ?_
    refine c_skip ?_
    refine n_then ?_
    refine c_seq ?_
    refine c_block ?_
    refine c_seq ?_
    refine c_reg ?_
    refine l_val (r_move (v := .int _ _) rfl rfl) rfl rfl ?_
    refine l_val (r_indexStrV (l := digs) (n := i) Try.underlying9 rfl rfl rfl (dig_get (by omega))) rfl rfl ?_
    refine l_val (r_move (v := .int _ _) rfl rfl) rfl rfl ?_
    refine l_val (r_eql_u8 rfl rfl rfl rfl) rfl rfl ?_
    refine l_split ?_ ?_
    · intro hc2
      replace hc2 := of_decide_eq_true hc2
      have hd : dval b = i := by rw [← hc2, dval_dig i (by omega)]
      refine l_end ?_
      refine n_then ?_
      refine c_true rfl ?_
      refine c_seq ?_
      refine c_reg ?_
      refine l_val (r_move (v := .int _ _) rfl rfl) rfl rfl ?_
      refine l_val (r_assign (v := .int _ _) rfl rfl) rfl rfl ?_
      refine l_end ?_
      refine n_then ?_
      refine c_ret ?_
      refine r_block ?_
      refine r_then ?_
      refine r_then ?_
      refine r_block ?_
      refine r_then ?_
      refine ret_tmp (v := .int .i64 (dval b : Int)) rfl ?_ ⟨rfl, hW.below⟩
      rw [hd]; rfl
    · intro hc2
      replace hc2 := of_decide_eq_false hc2
      refine l_end ?_
      refine n_then ?_
      refine c_false rfl ?_
      refine c_skip ?_
      refine n_block ?_
      refine n_then ?_
      refine c_reg ?_
      refine l_val (r_move (v := .int _ _) rfl rfl) rfl rfl ?_
      refine l_val (r_addN (n := 1) rfl rfl rfl (by omega)) rfl rfl ?_
      refine l_val (r_assign (v := .int _ _) rfl rfl) rfl rfl ?_
      refine l_end ?_
      refine n_then ?_
      exact loop_next (i + 1) (by kernel_rfl) hW ⟨by omega, fun j hj => by
          by_cases e : j = i
          · subst e; exact hc2
          · exact hno j (by omega)⟩ (by omega)
  · intro hc1
    replace hc1 := of_decide_eq_false hc1
    obtain rfl : i = 16 := by omega
    have hd : dval b = 16 := dval_none.2 hno
    refine l_end ?_
    refine n_then ?_
    refine c_false rfl ?_
    refine c_exit ?_
    refine x_then ?_
    refine x_then ?_
    refine x_hit ?_
    refine n_then ?_
    refine c_seq ?_
    refine c_reg ?_
    refine l_val (r_assign (v := .int _ _) rfl rfl) rfl rfl ?_
    refine l_end ?_
    refine n_then ?_
    refine c_ret ?_
    refine ret_tmp (v := .int .i64 (dval b : Int)) rfl ?_ ⟨rfl, hW.below⟩
    rw [hd]; rfl

end Go.Proofs.Ytlabfinhdidmaaa
