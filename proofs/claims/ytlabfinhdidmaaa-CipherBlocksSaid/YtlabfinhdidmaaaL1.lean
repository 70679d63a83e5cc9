/- CipherBlocks. -/
import Derived.Test.YtlabfinhdidmaaaFacts
import Derived.Test.YtlabfinhdidmaaaVals
import Derived.Test.YtlabfinhdidmaaaC8
namespace Go.Proofs.Ytlabfinhdidmaaa
open Go.RowKit Pl

set_option maxRecDepth 10000 in
/-- headend/headendlaw02.CipherBlocks -/
theorem g_CipherBlocks (k b : Kw) : Gives Try.prog 5 [keyV k, keyV b].toArray (.bool true) := by
  refine gives_of Try.func5 rfl (bs := [keyV k, keyV b, undef, undef, undef, undef, undef, undef, undef, undef, undef, undef, undef, undef, undef, undef, undef, undef, undef, undef, undef]) rfl ?_
  intro w hW
  refine c_seq ?_
  refine c_reg ?_
  refine l_box hW rfl rfl rfl rfl ?_
  intro g1 W hW
  refine l_box hW rfl rfl rfl rfl ?_
  intro g2 W hW
  refine l_val (r_assign (v := .bool _) rfl rfl) rfl rfl ?_
  refine l_end ?_
  refine n_then ?_
  refine c_seq ?_
  refine c_regY hW [] [0, 0, 0, 0, 0, 0, 0, 0, 0, 0, 0, 0, 0, 0, 0, 0, 0] (by kernel_rfl) (by kernel_rfl) ?_
  refine y_loadA 1 tyA23 rfl rfl rfl rfl rfl (by first | rfl | exact kc_len _ | exact kcf_len _ | (simp; done)) (by decide) ?_
  refine y_loadA 0 tyA23 rfl rfl rfl rfl rfl (by first | rfl | exact kc_len _ | exact kcf_len _ | (simp; done)) (by decide) ?_
  refine y_call (g_Encrypt _ _) en27 rfl rfl rfl rfl ?_
  refine y_loadA 1 tyA23 rfl rfl rfl rfl rfl (by first | rfl | exact kc_len _ | exact kcf_len _ | (simp; done)) (by decide) ?_
  refine y_loadA 0 tyA23 rfl rfl rfl rfl rfl (by first | rfl | exact kc_len _ | exact kcf_len _ | (simp; done)) (by decide) ?_
  refine y_call (g_rEncrypt _ _) en28 rfl rfl rfl rfl ?_
  refine y_val (r_eqlK tyK23 _ _ (c := true) rfl rfl rfl (by simp)) rfl rfl ?_
  refine y_val (r_move (v := .bool _) rfl rfl) rfl rfl ?_
  refine y_loadA 1 tyA23 (by kernel_rfl) rfl rfl rfl rfl (by first | rfl | exact kc_len _ | exact kcf_len _ | (simp; done)) (by decide) ?_
  refine y_loadA 0 tyA23 (by kernel_rfl) rfl rfl rfl rfl (by first | rfl | exact kc_len _ | exact kcf_len _ | (simp; done)) (by decide) ?_
  refine y_call (g_Decrypt _ _) en29 (by kernel_rfl) rfl rfl rfl ?_
  refine y_loadA 1 tyA23 (by kernel_rfl) rfl rfl rfl rfl (by first | rfl | exact kc_len _ | exact kcf_len _ | (simp; done)) (by decide) ?_
  refine y_loadA 0 tyA23 (by kernel_rfl) rfl rfl rfl rfl (by first | rfl | exact kc_len _ | exact kcf_len _ | (simp; done)) (by decide) ?_
  refine y_call (g_rDecrypt _ _) en30 (by kernel_rfl) rfl rfl rfl ?_
  refine y_val (r_eqlK tyK23 _ _ (c := true) rfl rfl rfl (by simp)) (by kernel_rfl) rfl ?_
  refine y_val (r_pick (v := .bool _) rfl rfl rfl) rfl rfl ?_
  refine y_val (r_assign (v := .bool _) rfl rfl) rfl rfl ?_
  refine y_end ?_
  intro W hW
  refine n_then ?_
  refine c_ret ?_
  refine ret_tmp (v := .bool true) rfl ?_ ⟨rfl, hW.below⟩
  rfl

end Go.Proofs.Ytlabfinhdidmaaa
