/- Law of texts. -/
import Derived.Test.YtlabfinhdidmaaaFacts
import Derived.Test.YtlabfinhdidmaaaVals
import Derived.Test.YtlabfinhdidmaaaC18
import Derived.Test.YtlabfinhdidmaaaVals4
namespace Go.Proofs.Ytlabfinhdidmaaa
open Go.RowKit Pl

set_option maxRecDepth 10000 in
/-- headend/headendlaw02.CipherTexts -/
theorem g_CipherTextsN (k : Kw) (l : Bs8) (hp : parse l = none) : Gives Try.prog 3 [keyV k, strV l].toArray (.bool true) := by
  refine gives_of Try.func3 rfl (bs := [keyV k, strV l, undef, undef, undef, undef, undef, undef, undef, undef, undef, undef, undef, undef, undef, undef, undef, undef, undef, undef, undef, undef, undef, undef, undef, undef, undef, undef, undef, undef, undef, undef, undef, undef]) rfl ?_
  intro w hW
  refine c_seq ?_
  refine c_reg ?_
  refine l_box hW rfl rfl rfl rfl ?_
  intro g1 W hW
  refine l_val (r_assign (v := .bool _) rfl rfl) rfl rfl ?_
  refine l_end ?_
  refine n_then ?_
  refine c_seq ?_
  refine c_reg ?_
  refine l_val (r_move (v := .string _) rfl rfl) rfl rfl ?_
  refine l_call hW (g_ParseN hp) en19 rfl rfl rfl rfl ?_
  intro W hW
  refine l_val (r_move (v := .tuple _) rfl rfl) rfl rfl ?_
  refine l_val (r_extract (v := .agg _) rfl rfl rfl) rfl rfl ?_
  refine l_val (r_extract (v := .int _ _) rfl rfl rfl) rfl rfl ?_
  refine l_alloc hW tyZ23 rfl rfl rfl ?_
  intro g2 W hW
  refine l_storeA hW 0 tyA23 rfl rfl rfl rfl rfl rfl (by first | rfl | exact kc_len _ | exact kcf_len _ | (simp; done)) (by first | rfl | exact kc_len _ | exact kcf_len _ | (simp; done)) (by first | exact kc_one _ | exact kcf_one _ | (simp [Value.oneCell']; done)) ?_
  intro W hW
  refine l_val (r_assign (v := .int _ _) rfl rfl) rfl rfl ?_
  refine l_end ?_
  refine n_then ?_
  refine c_seq ?_
  refine c_reg ?_
  refine l_val (r_move (v := .string _) rfl rfl) rfl rfl ?_
  refine l_call hW (g_rParseN hp) en20 rfl rfl rfl rfl ?_
  intro W hW
  refine l_val (r_move (v := .tuple _) rfl rfl) rfl rfl ?_
  refine l_val (r_extract (v := .agg _) rfl rfl rfl) rfl rfl ?_
  refine l_val (r_extract (v := .int _ _) rfl rfl rfl) rfl rfl ?_
  refine l_alloc hW tyZ23 rfl rfl rfl ?_
  intro g3 W hW
  refine l_storeA hW 0 tyA23 rfl rfl rfl rfl rfl rfl (by first | rfl | exact kc_len _ | exact kcf_len _ | (simp; done)) (by first | rfl | exact kc_len _ | exact kcf_len _ | (simp; done)) (by first | exact kc_one _ | exact kcf_one _ | (simp [Value.oneCell']; done)) ?_
  intro W hW
  refine l_val (r_assign (v := .int _ _) rfl rfl) rfl rfl ?_
  refine l_end ?_
  refine n_then ?_
  refine c_seq ?_
  refine c_regY hW [] [.q, .q, .q, .q, .q, .q, .q, .q, .q, .q, .q, .q, .q, .q, .q, .q] (by kernel_rfl) (by kernel_rfl) ?_
  refine y_loadA 2 tyA23 rfl rfl rfl rfl rfl (by first | rfl | exact kc_len _ | exact kcf_len _ | (simp; done)) (by decide) ?_
  refine y_call (g_Text _) en21 rfl rfl rfl rfl ?_
  refine y_loadA 2 tyA23 rfl rfl rfl rfl rfl (by first | rfl | exact kc_len _ | exact kcf_len _ | (simp; done)) (by decide) ?_
  refine y_call (g_rText _) en22 rfl rfl rfl rfl ?_
  refine y_val (r_strEql (c := true) rfl rfl rfl (by simp)) rfl rfl ?_
  refine y_val (r_move (v := .bool _) rfl rfl) rfl rfl ?_
  refine y_loadA 1 tyA23 (by kernel_rfl) rfl rfl rfl rfl (by first | rfl | exact kc_len _ | exact kcf_len _ | (simp; done)) (by decide) ?_
  refine y_loadA 0 tyA23 (by kernel_rfl) rfl rfl rfl rfl (by first | rfl | exact kc_len _ | exact kcf_len _ | (simp; done)) (by decide) ?_
  refine y_val (r_eqlK tyK23 _ _ (c := true) rfl rfl rfl (by simp)) (by kernel_rfl) rfl ?_
  refine y_val (r_pick (v := .bool _) rfl rfl rfl) rfl rfl ?_
  refine y_val (r_move (v := .bool _) rfl rfl) rfl rfl ?_
  refine y_val (r_move (v := .int _ _) rfl rfl) (by kernel_rfl) rfl ?_
  refine y_val (r_move (v := .int _ _) rfl rfl) (by kernel_rfl) rfl ?_
  refine y_val (r_eqlN (b := true) (m := 12) (n := 12) rfl rfl rfl rfl) (by kernel_rfl) rfl ?_
  refine y_val (r_pick (v := .bool _) rfl rfl rfl) rfl rfl ?_
  refine y_val (r_assign (v := .bool _) rfl rfl) rfl rfl ?_
  refine y_end ?_
  intro W hW
  refine n_then ?_
  refine c_ret ?_
  refine ret_tmp (v := .bool true) rfl ?_ ⟨rfl, hW.below⟩
  rfl

set_option maxRecDepth 10000 in
/-- headend/headendlaw02.CipherTexts -/
theorem g_CipherTextsS (k : Kw) (l : Bs8) (k2 : Kw) (hp : parse l = some k2) : Gives Try.prog 3 [keyV k, strV l].toArray (.bool true) := by
  refine gives_of Try.func3 rfl (bs := [keyV k, strV l, undef, undef, undef, undef, undef, undef, undef, undef, undef, undef, undef, undef, undef, undef, undef, undef, undef, undef, undef, undef, undef, undef, undef, undef, undef, undef, undef, undef, undef, undef, undef, undef]) rfl ?_
  intro w hW
  refine c_seq ?_
  refine c_reg ?_
  refine l_box hW rfl rfl rfl rfl ?_
  intro g1 W hW
  refine l_val (r_assign (v := .bool _) rfl rfl) rfl rfl ?_
  refine l_end ?_
  refine n_then ?_
  refine c_seq ?_
  refine c_reg ?_
  refine l_val (r_move (v := .string _) rfl rfl) rfl rfl ?_
  refine l_call hW (g_ParseS hp) en19 rfl rfl rfl rfl ?_
  intro W hW
  refine l_val (r_move (v := .tuple _) rfl rfl) rfl rfl ?_
  refine l_val (r_extract (v := .agg _) rfl rfl rfl) rfl rfl ?_
  refine l_val (r_extract (v := .int _ _) rfl rfl rfl) rfl rfl ?_
  refine l_alloc hW tyZ23 rfl rfl rfl ?_
  intro g2 W hW
  refine l_storeA hW 0 tyA23 rfl rfl rfl rfl rfl rfl (by first | rfl | exact kc_len _ | exact kcf_len _ | (simp; done)) (by first | rfl | exact kc_len _ | exact kcf_len _ | (simp; done)) (by first | exact kc_one _ | exact kcf_one _ | (simp [Value.oneCell']; done)) ?_
  intro W hW
  refine l_val (r_assign (v := .int _ _) rfl rfl) rfl rfl ?_
  refine l_end ?_
  refine n_then ?_
  refine c_seq ?_
  refine c_reg ?_
  refine l_val (r_move (v := .string _) rfl rfl) rfl rfl ?_
  refine l_call hW (g_rParseS hp) en20 rfl rfl rfl rfl ?_
  intro W hW
  refine l_val (r_move (v := .tuple _) rfl rfl) rfl rfl ?_
  refine l_val (r_extract (v := .agg _) rfl rfl rfl) rfl rfl ?_
  refine l_val (r_extract (v := .int _ _) rfl rfl rfl) rfl rfl ?_
  refine l_alloc hW tyZ23 rfl rfl rfl ?_
  intro g3 W hW
  refine l_storeA hW 0 tyA23 rfl rfl rfl rfl rfl rfl (by first | rfl | exact kc_len _ | exact kcf_len _ | (simp; done)) (by first | rfl | exact kc_len _ | exact kcf_len _ | (simp; done)) (by first | exact kc_one _ | exact kcf_one _ | (simp [Value.oneCell']; done)) ?_
  intro W hW
  refine l_val (r_assign (v := .int _ _) rfl rfl) rfl rfl ?_
  refine l_end ?_
  refine n_then ?_
  refine c_seq ?_
  refine c_regY hW [] [.q, .q, .q, .q, .q, .q, .q, .q, .q, .q, .q, .q, .q, .q, .q, .q] (by kernel_rfl) (by kernel_rfl) ?_
  refine y_loadA 2 tyA23 rfl rfl rfl rfl rfl (by first | rfl | exact kc_len _ | exact kcf_len _ | (simp; done)) (by decide) ?_
  refine y_call (g_Text _) en21 rfl rfl rfl rfl ?_
  refine y_loadA 2 tyA23 rfl rfl rfl rfl rfl (by first | rfl | exact kc_len _ | exact kcf_len _ | (simp; done)) (by decide) ?_
  refine y_call (g_rText _) en22 rfl rfl rfl rfl ?_
  refine y_val (r_strEql (c := true) rfl rfl rfl (by simp)) rfl rfl ?_
  refine y_val (r_move (v := .bool _) rfl rfl) rfl rfl ?_
  refine y_loadA 1 tyA23 (by kernel_rfl) rfl rfl rfl rfl (by first | rfl | exact kc_len _ | exact kcf_len _ | (simp; done)) (by decide) ?_
  refine y_loadA 0 tyA23 (by kernel_rfl) rfl rfl rfl rfl (by first | rfl | exact kc_len _ | exact kcf_len _ | (simp; done)) (by decide) ?_
  refine y_val (r_eqlK tyK23 _ _ (c := true) rfl rfl rfl (by simp)) (by kernel_rfl) rfl ?_
  refine y_val (r_pick (v := .bool _) rfl rfl rfl) rfl rfl ?_
  refine y_val (r_move (v := .bool _) rfl rfl) rfl rfl ?_
  refine y_val (r_move (v := .int _ _) rfl rfl) (by kernel_rfl) rfl ?_
  refine y_val (r_move (v := .int _ _) rfl rfl) (by kernel_rfl) rfl ?_
  refine y_val (r_eqlN (b := true) (m := 0) (n := 0) rfl rfl rfl rfl) (by kernel_rfl) rfl ?_
  refine y_val (r_pick (v := .bool _) rfl rfl rfl) rfl rfl ?_
  refine y_val (r_assign (v := .bool _) rfl rfl) rfl rfl ?_
  refine y_end ?_
  intro W hW
  refine n_then ?_
  refine c_ret ?_
  refine ret_tmp (v := .bool true) rfl ?_ ⟨rfl, hW.below⟩
  rfl

end Go.Proofs.Ytlabfinhdidmaaa
