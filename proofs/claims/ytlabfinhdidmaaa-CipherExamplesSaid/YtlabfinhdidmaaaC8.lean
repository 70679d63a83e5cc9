/- Decryption of package cipher. -/
import Derived.Test.YtlabfinhdidmaaaFacts
import Derived.Test.YtlabfinhdidmaaaVals
import Derived.Test.YtlabfinhdidmaaaC7
namespace Go.Proofs.Ytlabfinhdidmaaa
open Go.RowKit Pl

set_option maxRecDepth 10000 in
/-- headend/cipher.Decrypt -/
theorem g_Decrypt (k b : Kw) : Gives Try.prog 29 [keyV k, keyV b].toArray (keyV (dec k b)) := by
  refine givesM_of Try.func29 rfl (bs := [keyV k, keyV b, undef, undef, undef, undef, undef, undef, undef, undef, undef, undef, undef, undef, undef, undef, undef, undef, undef, undef, undef, undef, undef, undef, undef, undef, undef, undef, undef, undef]) rfl ?_
  intro w hW
  refine c_seq ?_
  refine c_reg ?_
  refine l_box hW rfl rfl rfl rfl ?_
  intro g1 W hW
  refine l_box hW rfl rfl rfl rfl ?_
  intro g2 W hW
  refine l_alloc hW tyZ23 rfl rfl rfl ?_
  intro g3 W hW
  refine l_end ?_
  refine n_then ?_
  refine c_seq ?_
  refine c_reg ?_
  refine l_alloc hW tyZ79 rfl rfl rfl ?_
  intro g4 W hW
  refine l_end ?_
  refine n_then ?_
  refine c_seq ?_
  refine c_seq ?_
  refine c_reg ?_
  refine l_loadA hW 3 tyA23 rfl rfl rfl rfl rfl (by first | rfl | exact kc_len _ | exact kcf_len _ | (simp; done)) ?_
  refine l_callX hW (g_keys k) en47 trivial rfl rfl rfl rfl ?_
  rintro _ Bs1 W ⟨gk, rfl, rfl⟩ hW
  replace hW := hW.perm List.perm_append_comm
  refine l_end ?_
  refine n_then ?_
  refine c_block ?_
  refine c_range (i_keys k gk) en68 rfl (fun _ => rfl) (fun (i : Nat) => [⟨g4, wu (rk k) i, 79⟩, ⟨g3, z23, 23⟩, ⟨g2, kc b, 23⟩, ⟨g1, kc k, 23⟩]) (hW.to (by simp only [wu_zero]; rfl)) (fun (i : Nat) => fr [keyV k, keyV b, .pointer (some ⟨g1, 0, none⟩), .pointer (some ⟨g2, 0, none⟩), .pointer (some ⟨g3, 0, none⟩), .pointer (some ⟨g4, 0, none⟩), .int .i64 (i : Int), U64 (rk k i), undef, undef, keyV k, .func (.func 68) #[] #[.pointer (some ⟨gk, 0, none⟩)], .int .i64 (i : Int), U64 (rk k i), undef, undef, undef, undef, undef, undef, undef, undef, undef, undef, undef, undef, undef, undef, undef, undef] [] []) (fun (i : Nat) => [keyV k, keyV b, .pointer (some ⟨g1, 0, none⟩), .pointer (some ⟨g2, 0, none⟩), .pointer (some ⟨g3, 0, none⟩), .pointer (some ⟨g4, 0, none⟩), undef, undef, undef, undef, keyV k, .func (.func 68) #[] #[.pointer (some ⟨gk, 0, none⟩)], .int .i64 (i : Int), U64 (rk k i), undef, undef, undef, undef, undef, undef, undef, undef, undef, undef, undef, undef, undef, undef, undef, undef]) (fun _ => by kernel_rfl) ?_ ?_ ?_
  · intro l i W
    refine c_seq ?_
    refine c_reg ?_
    refine l_val (r_assign (v := .int _ _) rfl rfl) rfl rfl ?_
    refine l_end ?_
    refine n_then ?_
    refine c_reg ?_
    refine l_val (r_assign (v := .int _ _) rfl rfl) rfl rfl ?_
    refine l_end ?_
    refine n_then ⟨?_, rfl⟩
    exact congrArg (fun x => (fr x [] [] : Act)) (by kernel_rfl)
  · intro l r i L W hi hW
    refine c_block ?_
    refine c_reg ?_
    refine l_val (r_move (v := .int _ _) rfl rfl) rfl rfl ?_
    refine l_val (r_move (v := .int _ _) rfl rfl) rfl rfl ?_
    refine l_val (r_indexAddrArr1 Try.underlying79 tyC31.size rfl rfl rfl (by omega)) rfl rfl ?_
    refine l_storeC hW 1 tyC31 (v := .int _ _) rfl rfl rfl rfl rfl rfl (by rw [wu_len]; omega) rfl ?_
    intro W hW
    refine l_end ?_
    refine n_block ?_
    exact ⟨rfl, hW.to (by simp only [← wu_set (rk k) i]; rfl)⟩
  · intro D r W hDb hW hD
    refine n_block ?_
    refine n_then ?_
    refine c_seq ?_
    refine c_reg ?_
    refine l_loadA hW 3 tyA23 rfl rfl rfl rfl rfl (by first | rfl | exact kc_len _ | exact kcf_len _ | (simp; done)) ?_
    refine l_call hW (g_wordsOf _) en45 rfl rfl rfl rfl ?_
    intro W hW
    refine l_alloc hW tyZ65 rfl rfl rfl ?_
    intro g5 W hW
    refine l_storeA hW 0 tyA65 rfl rfl rfl rfl rfl rfl (by first | rfl | exact kc_len _ | exact kcf_len _ | (simp; done)) (by first | rfl | exact kc_len _ | exact kcf_len _ | (simp; done)) (by first | exact kc_one _ | exact kcf_one _ | (simp [Value.oneCell']; done)) ?_
    intro W hW
    refine l_end ?_
    refine n_then ?_
    refine c_seq ?_
    refine c_seq ?_
    refine c_reg ?_
    refine l_val (r_assign (v := .int _ _) rfl rfl) rfl rfl ?_
    refine l_end ?_
    refine n_then ?_
    refine c_block ?_
    refine c_loop (fun (i : Nat) (j : Nat → Value) => [keyV k, keyV b, .pointer (some ⟨g1, 0, none⟩), .pointer (some ⟨g2, 0, none⟩), .pointer (some ⟨g3, 0, none⟩), .pointer (some ⟨g4, 0, none⟩), j 6, j 7, .pointer (some ⟨g5, 0, none⟩), .int .i64 (im1 (32 - i)), j 10, j 11, j 12, j 13, j 14, j 15, j 16, j 17, j 18, j 19, j 20, j 21, j 22, j 23, j 24, j 25, j 26, j 27, j 28, j 29]) (fun (i : Nat) => [⟨g5, [U64 (decTo k b i).1, U64 (decTo k b i).2], 65⟩, ⟨gk, kc k, 23⟩, ⟨g4, wu (rk k) 32, 79⟩, ⟨g3, z23, 23⟩, ⟨g2, kc b, 23⟩, ⟨g1, kc k, 23⟩]) (fun (i : Nat) => i ≤ 32) (fun (i : Nat) => 32 - i) 0 (by kernel_rfl) hW (by omega) ?_
    intro i j W hx hW
    rcases Nat.lt_or_ge i 32 with h8 | h8
    · skip
      rw [show 32 - i = (31 - i) + 1 by omega]
      refine c_seq ?_
      refine c_seq ?_
      refine c_reg ?_
      refine l_val (r_move (v := .int _ _) rfl rfl) rfl rfl ?_
      refine l_val (r_geqN (b := true) (n := 0) rfl rfl rfl (decide_eq_true (by omega))) rfl rfl ?_
      refine l_end ?_
      refine n_then ?_
      refine c_true rfl ?_
      refine c_skip ?_
      refine n_then ?_
      refine c_seq ?_
      refine c_block ?_
      refine c_regY hW [0] [.r, .q, .q, .q, .q, .s] [0, 0, 2, 6, 15, 31] (by kernel_rfl) (by kernel_rfl) ?_
      refine y_loadA1 0 tyA65 rfl rfl rfl rfl rfl (by first | rfl | exact kc_len _ | exact kcf_len _ | (simp; done)) ?_
      refine y_val (r_move (v := .int _ _) rfl rfl) rfl rfl ?_
      refine y_val (r_indexAddrArr1 Try.underlying79 tyC31.size rfl rfl rfl (by omega)) rfl rfl ?_
      refine y_loadC 2 tyC31 rfl rfl rfl rfl rfl (wu_get (rk k) (by omega)) (by decide) ?_
      refine y_call (g_back _ _ _) en55 rfl rfl rfl rfl ?_
      refine y_storeA 0 tyA65 rfl rfl rfl rfl rfl rfl (by first | rfl | exact kc_len _ | exact kcf_len _ | (simp; done)) (by first | rfl | exact kc_len _ | exact kcf_len _ | (simp; done)) (by first | exact kc_one _ | exact kcf_one _ | (simp [Value.oneCell']; done)) (by decide) ?_
      refine y_end ?_
      intro W hW
      refine n_block ?_
      refine n_then ?_
      refine c_reg ?_
      refine l_val (r_move (v := .int _ _) rfl rfl) rfl rfl ?_
      refine l_val (r_sub (m := ((31 - i : Nat) : Int)) (n := 1) (r := im1 (32 - (i + 1))) rfl rfl rfl (by rw [show 32 - (i + 1) = 31 - i by omega]; exact im1_dec (by omega))) rfl rfl ?_
      refine l_val (r_assign (v := .int _ _) rfl rfl) rfl rfl ?_
      refine l_end ?_
      refine n_then ?_
      exact loop_next (i + 1) (by kernel_rfl) hW (by omega) (by omega)
    · skip
      obtain rfl : 32 = i := by omega
      refine c_seq ?_
      refine c_seq ?_
      refine c_reg ?_
      refine l_val (r_move (v := .int _ _) rfl rfl) rfl rfl ?_
      refine l_val (r_geq (m := -1) (n := 0) rfl rfl rfl rfl) rfl rfl ?_
      refine l_end ?_
      refine n_then ?_
      refine c_false rfl ?_
      refine c_exit ?_
      refine x_then ?_
      refine x_then ?_
      refine x_hit ?_
      refine n_then ?_
      refine c_seq ?_
      refine c_reg ?_
      refine l_loadA hW 0 tyA65 rfl rfl rfl rfl rfl (by first | rfl | exact kc_len _ | exact kcf_len _ | (simp; done)) ?_
      refine l_call hW (g_block _ _) en49 rfl rfl rfl rfl ?_
      intro W hW
      refine l_storeA hW 3 tyA23 rfl rfl rfl rfl rfl rfl (by first | rfl | exact kc_len _ | exact kcf_len _ | (simp; done)) (by first | rfl | exact kc_len _ | exact kcf_len _ | (simp; done)) (by first | exact kc_one _ | exact kcf_one _ | (simp [Value.oneCell']; done)) ?_
      intro W hW
      refine l_end ?_
      refine n_then ?_
      refine c_ret ?_
      refine r_mark hW hDb hD ?_
      intro r W hW
      refine ret_cell hW 3 tyA23 rfl rfl rfl (by first | rfl | exact kc_len _ | exact kcf_len _ | (simp; done)) ?_
      exact ⟨rfl, hW.below⟩

end Go.Proofs.Ytlabfinhdidmaaa
