/- Laws of round trips: blocks, derived keys, texts, numbers. -/
import Derived.Test.YtlabfinhdidmaaaFacts
import Derived.Test.YtlabfinhdidmaaaVals
import Derived.Test.YtlabfinhdidmaaaC19
import Derived.Test.YtlabfinhdidmaaaVals5
namespace Go.Proofs.Ytlabfinhdidmaaa
open Go.RowKit Pl

set_option maxRecDepth 10000 in
/-- headend/headendlaw02.CipherInverse -/
theorem g_CipherInverse (k x y : Kw) : Gives Try.prog 9 [keyV k, keyV x, keyV y].toArray (.bool true) := by
  refine gives_of Try.func9 rfl (bs := [keyV k, keyV x, keyV y, undef, undef, undef, undef, undef, undef, undef, undef, undef, undef, undef, undef, undef, undef, undef, undef, undef, undef, undef, undef, undef, undef, undef, undef, undef, undef, undef, undef, undef, undef, undef, undef, undef, undef, undef, undef, undef, undef]) rfl ?_
  intro w hW
  refine c_seq ?_
  refine c_reg ?_
  refine l_box hW rfl rfl rfl rfl ?_
  intro g1 W hW
  refine l_box hW rfl rfl rfl rfl ?_
  intro g2 W hW
  refine l_box hW rfl rfl rfl rfl ?_
  intro g3 W hW
  refine l_val (r_assign (v := .bool _) rfl rfl) rfl rfl ?_
  refine l_end ?_
  refine n_then ?_
  refine c_seq ?_
  refine c_regM hW [] [.q, .q, .q, .q, .q, .q, .mk 0, .mk 1, .st 0, .st 1] [⟨7, allocX 23 16⟩, ⟨8, allocX 23 16⟩] [z23, z23] [6, 7] (by kernel_rfl) (by kernel_rfl) rfl (by kernel_rfl) ?_
  refine y_loadA 2 tyA23 rfl rfl rfl rfl rfl (by first | rfl | exact kc_len _ | exact kcf_len _ | (simp; done)) (by decide) ?_
  refine y_loadA 1 tyA23 rfl rfl rfl rfl rfl (by first | rfl | exact kc_len _ | exact kcf_len _ | (simp; done)) (by decide) ?_
  refine y_call (g_Encrypt _ _) en27 rfl rfl rfl rfl ?_
  refine y_loadA 2 tyA23 rfl rfl rfl rfl rfl (by first | rfl | exact kc_len _ | exact kcf_len _ | (simp; done)) (by decide) ?_
  refine y_loadA 0 tyA23 rfl rfl rfl rfl rfl (by first | rfl | exact kc_len _ | exact kcf_len _ | (simp; done)) (by decide) ?_
  refine y_call (g_Encrypt _ _) en27 rfl rfl rfl rfl ?_
  refine y_alloc 0 tyZ23 rfl rfl rfl rfl ?_
  refine y_alloc 1 tyZ23 rfl rfl rfl rfl ?_
  refine y_stA 0 tyA23 rfl rfl rfl rfl (by first | rfl | exact kc_len _ | exact kcf_len _ | (simp; done)) (by first | exact kc_one _ | exact kcf_one _ | (simp [Value.oneCell']; done)) ?_
  refine y_stA 1 tyA23 rfl rfl rfl rfl (by first | rfl | exact kc_len _ | exact kcf_len _ | (simp; done)) (by first | exact kc_one _ | exact kcf_one _ | (simp [Value.oneCell']; done)) ?_
  refine y_end ?_
  refine y_made ?_
  rintro _ _ ⟨g4, rfl, rfl, -⟩
  refine y_made ?_
  rintro _ _ ⟨g5, rfl, rfl, -⟩
  intro W hW
  refine n_then ?_
  refine c_seq ?_
  refine c_regY hW [] [.q, .q, .q, .q, .q, .q, .q, .q, .q, .q, .q, .q, .q, .q, .q, .q, .q, .q, .q, .q, .q, .q, .q, .q, .q, .q, .q] (by kernel_rfl) (by kernel_rfl) ?_
  refine y_call (g_alive) en37 rfl rfl rfl rfl ?_
  refine y_val (r_move (v := .bool _) rfl rfl) rfl rfl ?_
  refine y_loadA 4 tyA23 (by kernel_rfl) rfl rfl rfl rfl (by first | rfl | exact kc_len _ | exact kcf_len _ | (simp; done)) (by decide) ?_
  refine y_loadA 1 tyA23 (by kernel_rfl) rfl rfl rfl rfl (by first | rfl | exact kc_len _ | exact kcf_len _ | (simp; done)) (by decide) ?_
  refine y_call (g_Decrypt _ _) en29 (by kernel_rfl) rfl rfl rfl ?_
  refine y_loadA 3 tyA23 (by kernel_rfl) rfl rfl rfl rfl (by first | rfl | exact kc_len _ | exact kcf_len _ | (simp; done)) (by decide) ?_
  refine y_val (r_eqlK tyK23 _ _ (c := true) rfl rfl rfl (by simp [dec_enc])) (by kernel_rfl) rfl ?_
  refine y_val (r_pick (v := .bool _) rfl rfl rfl) rfl rfl ?_
  refine y_val (r_move (v := .bool _) rfl rfl) rfl rfl ?_
  refine y_loadA 4 tyA23 (by kernel_rfl) rfl rfl rfl rfl (by first | rfl | exact kc_len _ | exact kcf_len _ | (simp; done)) (by decide) ?_
  refine y_loadA 4 tyA23 (by kernel_rfl) rfl rfl rfl rfl (by first | rfl | exact kc_len _ | exact kcf_len _ | (simp; done)) (by decide) ?_
  refine y_loadA 3 tyA23 (by kernel_rfl) rfl rfl rfl rfl (by first | rfl | exact kc_len _ | exact kcf_len _ | (simp; done)) (by decide) ?_
  refine y_call (g_Decrypt _ _) en29 (by kernel_rfl) rfl rfl rfl ?_
  refine y_call (g_Encrypt _ _) en27 (by kernel_rfl) rfl rfl rfl ?_
  refine y_loadA 3 tyA23 (by kernel_rfl) rfl rfl rfl rfl (by first | rfl | exact kc_len _ | exact kcf_len _ | (simp; done)) (by decide) ?_
  refine y_val (r_eqlK tyK23 _ _ (c := true) rfl rfl rfl (by simp [enc_dec])) (by kernel_rfl) rfl ?_
  refine y_val (r_pick (v := .bool _) rfl rfl rfl) rfl rfl ?_
  refine y_val (r_move (v := .bool _) rfl rfl) rfl rfl ?_
  refine y_loadA 1 tyA23 (by kernel_rfl) rfl rfl rfl rfl (by first | rfl | exact kc_len _ | exact kcf_len _ | (simp; done)) (by decide) ?_
  refine y_loadA 0 tyA23 (by kernel_rfl) rfl rfl rfl rfl (by first | rfl | exact kc_len _ | exact kcf_len _ | (simp; done)) (by decide) ?_
  refine y_val (r_eqlK tyK23 _ _ rfl rfl rfl rfl) (by kernel_rfl) rfl ?_
  refine y_loadA 3 tyA23 (by kernel_rfl) rfl rfl rfl rfl (by first | rfl | exact kc_len _ | exact kcf_len _ | (simp; done)) (by decide) ?_
  refine y_loadA 2 tyA23 (by kernel_rfl) rfl rfl rfl rfl (by first | rfl | exact kc_len _ | exact kcf_len _ | (simp; done)) (by decide) ?_
  refine y_val (r_eqlK tyK23 _ _ rfl rfl rfl rfl) (by kernel_rfl) rfl ?_
  refine y_val (r_eqlBool (c := true) Try.underlying4 rfl rfl rfl (by simp [enc_eq])) (by kernel_rfl) rfl ?_
  refine y_val (r_pick (v := .bool _) rfl rfl rfl) rfl rfl ?_
  refine y_val (r_assign (v := .bool _) rfl rfl) rfl rfl ?_
  refine y_end ?_
  intro W hW
  refine n_then ?_
  refine c_ret ?_
  refine ret_tmp (v := .bool true) rfl ?_ ⟨rfl, hW.below⟩
  rfl

set_option maxRecDepth 10000 in
/-- headend/headendlaw02.CipherApart -/
theorem g_CipherApart (k : Kw) (t1 : BitVec 8) (n1 : W64) (t2 : BitVec 8) (n2 : W64) : Gives Try.prog 10 [keyV k, B8 t1, U64 n1, B8 t2, U64 n2].toArray (.bool true) := by
  refine gives_of Try.func10 rfl (bs := [keyV k, B8 t1, U64 n1, B8 t2, U64 n2, undef, undef, undef, undef, undef, undef, undef, undef, undef, undef, undef, undef, undef, undef, undef, undef, undef, undef, undef, undef, undef, undef, undef, undef, undef, undef, undef]) rfl ?_
  intro w hW
  refine c_seq ?_
  refine c_reg ?_
  refine l_box hW rfl rfl rfl rfl ?_
  intro g1 W hW
  refine l_val (r_assign (v := .bool _) rfl rfl) rfl rfl ?_
  refine l_end ?_
  refine n_then ?_
  refine c_seq ?_
  refine c_regY hW [] [.q, .q, .q, .q, .q, .q, .q, .q, .q, .q, .q, .q, .q, .q, .q, .q, .q, .q, .q, .q, .q, .q] (by kernel_rfl) (by kernel_rfl) ?_
  refine y_call (g_alive) en37 rfl rfl rfl rfl ?_
  refine y_val (r_move (v := .bool _) rfl rfl) rfl rfl ?_
  refine y_loadA 0 tyA23 (by kernel_rfl) rfl rfl rfl rfl (by first | rfl | exact kc_len _ | exact kcf_len _ | (simp; done)) (by decide) ?_
  refine y_val (r_move (v := .int _ _) rfl rfl) (by kernel_rfl) rfl ?_
  refine y_val (r_move (v := .int _ _) rfl rfl) (by kernel_rfl) rfl ?_
  refine y_call (g_Derive _ _ _) en23 (by kernel_rfl) rfl rfl rfl ?_
  refine y_loadA 0 tyA23 (by kernel_rfl) rfl rfl rfl rfl (by first | rfl | exact kc_len _ | exact kcf_len _ | (simp; done)) (by decide) ?_
  refine y_val (r_move (v := .int _ _) rfl rfl) (by kernel_rfl) rfl ?_
  refine y_val (r_move (v := .int _ _) rfl rfl) (by kernel_rfl) rfl ?_
  refine y_call (g_Derive _ _ _) en23 (by kernel_rfl) rfl rfl rfl ?_
  refine y_val (r_eqlK tyK23 _ _ rfl rfl rfl rfl) (by kernel_rfl) rfl ?_
  refine y_val (r_move (v := .int _ _) rfl rfl) (by kernel_rfl) rfl ?_
  refine y_val (r_move (v := .int _ _) rfl rfl) (by kernel_rfl) rfl ?_
  refine y_val (r_eql_u8 rfl rfl rfl rfl) (by kernel_rfl) rfl ?_
  refine y_split ?_ ?_
  · intro hc1
    replace hc1 := of_decide_eq_true hc1
    refine y_val (r_move (v := .bool _) rfl rfl) (by kernel_rfl) rfl ?_
    refine y_val (r_move (v := .int _ _) rfl rfl) (by kernel_rfl) rfl ?_
    refine y_val (r_move (v := .int _ _) rfl rfl) (by kernel_rfl) rfl ?_
    refine y_val (r_eql_u64 rfl rfl rfl rfl) (by kernel_rfl) rfl ?_
    refine y_val (r_pick (v := .bool _) rfl rfl rfl) (by kernel_rfl) rfl ?_
    refine y_val (r_eqlBool (c := true) Try.underlying4 rfl rfl rfl (by simp [derive_eq, hc1])) (by kernel_rfl) rfl ?_
    refine y_val (r_pick (v := .bool _) rfl rfl rfl) rfl rfl ?_
    refine y_val (r_assign (v := .bool _) rfl rfl) rfl rfl ?_
    refine y_end ?_
    intro W hW
    refine n_then ?_
    refine c_ret ?_
    refine ret_tmp (v := .bool true) rfl ?_ ⟨rfl, hW.below⟩
    rfl
  · intro hc1
    replace hc1 := of_decide_eq_false hc1
    refine y_val (r_move (v := .bool _) rfl rfl) (by kernel_rfl) rfl ?_
    refine y_not (by kernel_rfl) rfl ?_
    refine y_not (by kernel_rfl) rfl ?_
    refine y_not (by kernel_rfl) rfl ?_
    refine y_val (r_pick (v := .bool _) rfl rfl rfl) (by kernel_rfl) rfl ?_
    refine y_val (r_eqlBool (c := true) Try.underlying4 rfl rfl rfl (by simp [derive_eq, hc1])) (by kernel_rfl) rfl ?_
    refine y_val (r_pick (v := .bool _) rfl rfl rfl) rfl rfl ?_
    refine y_val (r_assign (v := .bool _) rfl rfl) rfl rfl ?_
    refine y_end ?_
    intro W hW
    refine n_then ?_
    refine c_ret ?_
    refine ret_tmp (v := .bool true) rfl ?_ ⟨rfl, hW.below⟩
    rfl

set_option maxRecDepth 10000 in
/-- headend/headendlaw02.CipherTextBack -/
theorem g_CipherTextBackN (k : Kw) (l : Bs8) (hp : parse l = none) : Gives Try.prog 13 [keyV k, strV l].toArray (.bool true) := by
  refine gives_of Try.func13 rfl (bs := [keyV k, strV l, undef, undef, undef, undef, undef, undef, undef, undef, undef, undef, undef, undef, undef, undef, undef, undef, undef, undef, undef, undef, undef, undef, undef, undef, undef, undef, undef, undef, undef, undef, undef, undef, undef, undef, undef, undef, undef, undef, undef, undef, undef, undef, undef, undef, undef, undef, undef, undef, undef, undef, undef, undef, undef]) rfl ?_
  intro w hW
  refine c_seq ?_
  refine c_reg ?_
  refine l_box hW rfl rfl rfl rfl ?_
  intro g1 W hW
  refine l_val (r_assign (v := .bool _) rfl rfl) rfl rfl ?_
  refine l_end ?_
  refine n_then ?_
  refine c_seq ?_
  refine c_reg ?_
  refine l_call hW (g_alive) en37 rfl rfl rfl rfl ?_
  intro W hW
  refine l_val (r_assign (v := .bool _) rfl rfl) rfl rfl ?_
  refine l_end ?_
  refine n_then ?_
  refine c_seq ?_
  refine c_reg ?_
  refine l_loadA hW 0 tyA23 rfl rfl rfl rfl rfl (by first | rfl | exact kc_len _ | exact kcf_len _ | (simp; done)) ?_
  refine l_call hW (g_Text _) en21 rfl rfl rfl rfl ?_
  intro W hW
  refine l_val (r_assign (v := .string _) rfl rfl) rfl rfl ?_
  refine l_end ?_
  refine n_then ?_
  refine c_seq ?_
  refine c_reg ?_
  refine l_val (r_move (v := .string _) rfl rfl) rfl rfl ?_
  refine l_call hW (g_ParseS (parse_text k)) en19 rfl rfl rfl rfl ?_
  intro W hW
  refine l_val (r_move (v := .tuple _) rfl rfl) rfl rfl ?_
  refine l_val (r_extract (v := .agg _) rfl rfl rfl) rfl rfl ?_
  refine l_val (r_extract (v := .int _ _) rfl rfl rfl) rfl rfl ?_
  refine l_alloc hW tyZ23 rfl rfl rfl ?_
  intro g2 W hW
  refine l_storeA hW 0 tyA23 rfl rfl rfl rfl rfl rfl (by first | rfl | exact kc_len _ | exact kcf_len _ | (simp; done)) (by first | rfl | exact kc_len _ | exact kcf_len _ | (simp; done)) (by first | exact kc_one _ | exact kcf_one _ | (simp [Value.oneCell']; done)) ?_
  intro W hW
  refine l_val (r_assign (v := .int _ _) rfl rfl) rfl rfl ?_
  refine l_end ?_
  refine n_then ?_
  refine c_seq ?_
  refine c_seq ?_
  refine c_reg ?_
  refine l_val (r_move (v := .string _) rfl rfl) rfl rfl ?_
  refine l_val (r_lenStrV Try.underlying9 rfl rfl) rfl rfl ?_
  refine l_val (r_neqN (b := false) (n := 32) rfl rfl rfl (by simp [text_len])) rfl rfl ?_
  refine l_val (r_move (v := .bool _) rfl rfl) rfl rfl ?_
  refine l_valG (r_move (v := .int _ _) rfl rfl) (by kernel_rfl) rfl ?_
  refine l_valG (r_neqN (b := false) (m := 0) (n := 0) rfl rfl rfl rfl) (by kernel_rfl) rfl ?_
  refine l_val (r_pick (v := .bool _) rfl rfl rfl) rfl rfl ?_
  refine l_val (r_move (v := .bool _) rfl rfl) rfl rfl ?_
  refine l_loadAG hW 0 tyA23 (by kernel_rfl) rfl rfl rfl rfl (by first | rfl | exact kc_len _ | exact kcf_len _ | (simp; done)) ?_
  refine l_loadAG hW 1 tyA23 (by kernel_rfl) rfl rfl rfl rfl (by first | rfl | exact kc_len _ | exact kcf_len _ | (simp; done)) ?_
  refine l_valG (r_neqK tyK23 _ _ (c := false) rfl rfl rfl (by simp)) (by kernel_rfl) rfl ?_
  refine l_val (r_pick (v := .bool _) rfl rfl rfl) rfl rfl ?_
  refine l_end ?_
  refine n_then ?_
  refine c_false rfl ?_
  refine c_skip ?_
  refine n_then ?_
  refine c_seq ?_
  refine c_reg ?_
  refine l_val (r_move (v := .string _) rfl rfl) rfl rfl ?_
  refine l_call hW (g_ParseN hp) en19 rfl rfl rfl rfl ?_
  intro W hW
  refine l_val (r_move (v := .tuple _) rfl rfl) rfl rfl ?_
  refine l_val (r_extract (v := .agg _) rfl rfl rfl) rfl rfl ?_
  refine l_val (r_extract (v := .int _ _) rfl rfl rfl) rfl rfl ?_
  refine l_alloc hW tyZ23 rfl rfl rfl ?_
  intro g3 W hW
  refine l_storeA hW 0 tyA23 rfl rfl rfl rfl rfl rfl (by first | rfl | exact kc_len _ | exact kcf_len _ | (simp; done)) (by first | rfl | exact kc_len _ | exact kcf_len _ | (simp; done)) (by first | exact kc_one _ | exact kcf_one _ | (simp [Value.oneCell']; done)) ?_
  intro W hW
  refine l_val (r_assign (v := .int _ _) rfl rfl) rfl rfl ?_
  refine l_end ?_
  refine n_then ?_
  refine c_seq ?_
  refine c_seq ?_
  refine c_reg ?_
  refine l_val (r_move (v := .int _ _) rfl rfl) rfl rfl ?_
  refine l_val (r_neqN (b := true) (m := 12) (n := 0) rfl rfl rfl rfl) rfl rfl ?_
  refine l_end ?_
  refine n_then ?_
  refine c_true rfl ?_
  refine c_seq ?_
  refine c_reg ?_
  refine l_val (r_move (v := .bool _) rfl rfl) rfl rfl ?_
  refine l_val (r_move (v := .bool _) rfl rfl) rfl rfl ?_
  refine l_valG (r_move (v := .int _ _) rfl rfl) (by kernel_rfl) rfl ?_
  refine l_valG (r_eqlN (b := true) (m := 12) (n := 12) rfl rfl rfl rfl) (by kernel_rfl) rfl ?_
  refine l_val (r_pick (v := .bool _) rfl rfl rfl) rfl rfl ?_
  refine l_val (r_move (v := .bool _) rfl rfl) rfl rfl ?_
  refine l_loadAG hW 0 tyA23 (by kernel_rfl) rfl rfl rfl rfl (by first | rfl | exact kc_len _ | exact kcf_len _ | (simp; done)) ?_
  refine l_valG (r_build (ps := []) (bld23_) rfl rfl) (by kernel_rfl) rfl ?_
  refine l_valG (r_eqlK tyK23 (0#64, 0#64) (0#64, 0#64) (c := true) rfl rfl rfl (by simp)) (by kernel_rfl) rfl ?_
  refine l_val (r_pick (v := .bool _) rfl rfl rfl) rfl rfl ?_
  refine l_val (r_assign (v := .bool _) rfl rfl) rfl rfl ?_
  refine l_end ?_
  refine n_then ?_
  refine c_ret ?_
  refine r_then ?_
  refine ret_tmp (v := .bool true) rfl ?_ ⟨rfl, hW.below⟩
  rfl

set_option maxRecDepth 10000 in
/-- headend/headendlaw02.CipherTextBack -/
theorem g_CipherTextBackS (k : Kw) (l : Bs8) (k2 : Kw) (hp : parse l = some k2) : Gives Try.prog 13 [keyV k, strV l].toArray (.bool true) := by
  refine gives_of Try.func13 rfl (bs := [keyV k, strV l, undef, undef, undef, undef, undef, undef, undef, undef, undef, undef, undef, undef, undef, undef, undef, undef, undef, undef, undef, undef, undef, undef, undef, undef, undef, undef, undef, undef, undef, undef, undef, undef, undef, undef, undef, undef, undef, undef, undef, undef, undef, undef, undef, undef, undef, undef, undef, undef, undef, undef, undef, undef, undef]) rfl ?_
  intro w hW
  refine c_seq ?_
  refine c_reg ?_
  refine l_box hW rfl rfl rfl rfl ?_
  intro g1 W hW
  refine l_val (r_assign (v := .bool _) rfl rfl) rfl rfl ?_
  refine l_end ?_
  refine n_then ?_
  refine c_seq ?_
  refine c_reg ?_
  refine l_call hW (g_alive) en37 rfl rfl rfl rfl ?_
  intro W hW
  refine l_val (r_assign (v := .bool _) rfl rfl) rfl rfl ?_
  refine l_end ?_
  refine n_then ?_
  refine c_seq ?_
  refine c_reg ?_
  refine l_loadA hW 0 tyA23 rfl rfl rfl rfl rfl (by first | rfl | exact kc_len _ | exact kcf_len _ | (simp; done)) ?_
  refine l_call hW (g_Text _) en21 rfl rfl rfl rfl ?_
  intro W hW
  refine l_val (r_assign (v := .string _) rfl rfl) rfl rfl ?_
  refine l_end ?_
  refine n_then ?_
  refine c_seq ?_
  refine c_reg ?_
  refine l_val (r_move (v := .string _) rfl rfl) rfl rfl ?_
  refine l_call hW (g_ParseS (parse_text k)) en19 rfl rfl rfl rfl ?_
  intro W hW
  refine l_val (r_move (v := .tuple _) rfl rfl) rfl rfl ?_
  refine l_val (r_extract (v := .agg _) rfl rfl rfl) rfl rfl ?_
  refine l_val (r_extract (v := .int _ _) rfl rfl rfl) rfl rfl ?_
  refine l_alloc hW tyZ23 rfl rfl rfl ?_
  intro g2 W hW
  refine l_storeA hW 0 tyA23 rfl rfl rfl rfl rfl rfl (by first | rfl | exact kc_len _ | exact kcf_len _ | (simp; done)) (by first | rfl | exact kc_len _ | exact kcf_len _ | (simp; done)) (by first | exact kc_one _ | exact kcf_one _ | (simp [Value.oneCell']; done)) ?_
  intro W hW
  refine l_val (r_assign (v := .int _ _) rfl rfl) rfl rfl ?_
  refine l_end ?_
  refine n_then ?_
  refine c_seq ?_
  refine c_seq ?_
  refine c_reg ?_
  refine l_val (r_move (v := .string _) rfl rfl) rfl rfl ?_
  refine l_val (r_lenStrV Try.underlying9 rfl rfl) rfl rfl ?_
  refine l_val (r_neqN (b := false) (n := 32) rfl rfl rfl (by simp [text_len])) rfl rfl ?_
  refine l_val (r_move (v := .bool _) rfl rfl) rfl rfl ?_
  refine l_valG (r_move (v := .int _ _) rfl rfl) (by kernel_rfl) rfl ?_
  refine l_valG (r_neqN (b := false) (m := 0) (n := 0) rfl rfl rfl rfl) (by kernel_rfl) rfl ?_
  refine l_val (r_pick (v := .bool _) rfl rfl rfl) rfl rfl ?_
  refine l_val (r_move (v := .bool _) rfl rfl) rfl rfl ?_
  refine l_loadAG hW 0 tyA23 (by kernel_rfl) rfl rfl rfl rfl (by first | rfl | exact kc_len _ | exact kcf_len _ | (simp; done)) ?_
  refine l_loadAG hW 1 tyA23 (by kernel_rfl) rfl rfl rfl rfl (by first | rfl | exact kc_len _ | exact kcf_len _ | (simp; done)) ?_
  refine l_valG (r_neqK tyK23 _ _ (c := false) rfl rfl rfl (by simp)) (by kernel_rfl) rfl ?_
  refine l_val (r_pick (v := .bool _) rfl rfl rfl) rfl rfl ?_
  refine l_end ?_
  refine n_then ?_
  refine c_false rfl ?_
  refine c_skip ?_
  refine n_then ?_
  refine c_seq ?_
  refine c_reg ?_
  refine l_val (r_move (v := .string _) rfl rfl) rfl rfl ?_
  refine l_call hW (g_ParseS hp) en19 rfl rfl rfl rfl ?_
  intro W hW
  refine l_val (r_move (v := .tuple _) rfl rfl) rfl rfl ?_
  refine l_val (r_extract (v := .agg _) rfl rfl rfl) rfl rfl ?_
  refine l_val (r_extract (v := .int _ _) rfl rfl rfl) rfl rfl ?_
  refine l_alloc hW tyZ23 rfl rfl rfl ?_
  intro g3 W hW
  refine l_storeA hW 0 tyA23 rfl rfl rfl rfl rfl rfl (by first | rfl | exact kc_len _ | exact kcf_len _ | (simp; done)) (by first | rfl | exact kc_len _ | exact kcf_len _ | (simp; done)) (by first | exact kc_one _ | exact kcf_one _ | (simp [Value.oneCell']; done)) ?_
  intro W hW
  refine l_val (r_assign (v := .int _ _) rfl rfl) rfl rfl ?_
  refine l_end ?_
  refine n_then ?_
  refine c_seq ?_
  refine c_seq ?_
  refine c_reg ?_
  refine l_val (r_move (v := .int _ _) rfl rfl) rfl rfl ?_
  refine l_val (r_neqN (b := false) (m := 0) (n := 0) rfl rfl rfl rfl) rfl rfl ?_
  refine l_end ?_
  refine n_then ?_
  refine c_false rfl ?_
  refine c_skip ?_
  refine n_then ?_
  refine c_seq ?_
  refine c_reg ?_
  refine l_val (r_move (v := .bool _) rfl rfl) rfl rfl ?_
  refine l_val (r_move (v := .bool _) rfl rfl) rfl rfl ?_
  refine l_loadAG hW 0 tyA23 (by kernel_rfl) rfl rfl rfl rfl (by first | rfl | exact kc_len _ | exact kcf_len _ | (simp; done)) ?_
  refine l_callG hW (g_Text _) en21 (by kernel_rfl) rfl rfl rfl ?_
  intro W hW
  refine l_valG (r_move (v := .string _) rfl rfl) (by kernel_rfl) rfl ?_
  refine l_valG (r_strEql (c := true) rfl rfl rfl (by simp [text_of_parse hp])) (by kernel_rfl) rfl ?_
  refine l_val (r_pick (v := .bool _) rfl rfl rfl) rfl rfl ?_
  refine l_val (r_assign (v := .bool _) rfl rfl) rfl rfl ?_
  refine l_end ?_
  refine n_then ?_
  refine c_ret ?_
  refine ret_tmp (v := .bool true) rfl ?_ ⟨rfl, hW.below⟩
  rfl

set_option maxRecDepth 10000 in
/-- headend/headendlaw02.CipherBelow -/
theorem g_CipherBelow (k : Kw) (n most : W64) : Gives Try.prog 14 [keyV k, U64 n, U64 most].toArray (.bool true) := by
  refine gives_of Try.func14 rfl (bs := [keyV k, U64 n, U64 most, undef, undef, undef, undef, undef, undef, undef, undef, undef, undef, undef, undef, undef, undef, undef, undef, undef, undef, undef, undef, undef, undef, undef, undef, undef, undef, undef, undef, undef, undef, undef, undef, undef, undef, undef, undef, undef, undef, undef, undef, undef, undef, undef, undef, undef, undef, undef, undef]) rfl ?_
  intro w hW
  refine c_seq ?_
  refine c_reg ?_
  refine l_box hW rfl rfl rfl rfl ?_
  intro g1 W hW
  refine l_val (r_assign (v := .bool _) rfl rfl) rfl rfl ?_
  refine l_end ?_
  refine n_then ?_
  refine c_seq ?_
  refine c_reg ?_
  refine l_call hW (g_alive) en37 rfl rfl rfl rfl ?_
  intro W hW
  refine l_val (r_assign (v := .bool _) rfl rfl) rfl rfl ?_
  refine l_end ?_
  refine n_then ?_
  refine c_seq ?_
  refine c_reg ?_
  refine l_loadA hW 0 tyA23 rfl rfl rfl rfl rfl (by first | rfl | exact kc_len _ | exact kcf_len _ | (simp; done)) ?_
  refine l_val (r_move (v := .int _ _) rfl rfl) rfl rfl ?_
  refine l_val (r_move (v := .int _ _) rfl rfl) rfl rfl ?_
  refine l_call hW (g_Number _ _ _) en25 rfl rfl rfl rfl ?_
  intro W hW
  refine l_val (r_assign (v := .int _ _) rfl rfl) rfl rfl ?_
  refine l_end ?_
  refine n_then ?_
  refine c_seq ?_
  refine c_seq ?_
  refine c_reg ?_
  refine l_val (r_move (v := .int _ _) rfl rfl) rfl rfl ?_
  refine l_val (r_eql_u64 (y := 0#64) rfl rfl rfl rfl) rfl rfl ?_
  refine l_split ?_ ?_
  · intro hc1
    replace hc1 := of_decide_eq_true hc1
    refine l_end ?_
    refine n_then ?_
    refine c_true rfl ?_
    refine c_seq ?_
    refine c_reg ?_
    refine l_val (r_move (v := .bool _) rfl rfl) rfl rfl ?_
    refine l_val (r_move (v := .bool _) rfl rfl) rfl rfl ?_
    refine l_valG (r_move (v := .int _ _) rfl rfl) (by kernel_rfl) rfl ?_
    refine l_valG (r_eql_u64 (b := true) (y := 0#64) rfl rfl rfl (by simp [number, hc1])) (by kernel_rfl) rfl ?_
    refine l_val (r_pick (v := .bool _) rfl rfl rfl) rfl rfl ?_
    refine l_val (r_assign (v := .bool _) rfl rfl) rfl rfl ?_
    refine l_end ?_
    refine n_then ?_
    refine c_ret ?_
    refine r_then ?_
    refine ret_tmp (v := .bool true) rfl ?_ ⟨rfl, hW.below⟩
    rfl
  · intro hc1
    replace hc1 := of_decide_eq_false hc1
    refine l_end ?_
    refine n_then ?_
    refine c_false rfl ?_
    refine c_skip ?_
    refine n_then ?_
    refine c_seq ?_
    refine c_reg ?_
    refine l_loadA hW 0 tyA23 rfl rfl rfl rfl rfl (by first | rfl | exact kc_len _ | exact kcf_len _ | (simp; done)) ?_
    refine l_val (r_move (v := .int _ _) rfl rfl) rfl rfl ?_
    refine l_call hW (g_Derive k 3 n) en23 rfl rfl rfl rfl ?_
    intro W hW
    refine l_alloc hW tyZ23 rfl rfl rfl ?_
    intro g2 W hW
    refine l_storeA hW 0 tyA23 rfl rfl rfl rfl rfl rfl (by first | rfl | exact kc_len _ | exact kcf_len _ | (simp; done)) (by first | rfl | exact kc_len _ | exact kcf_len _ | (simp; done)) (by first | exact kc_one _ | exact kcf_one _ | (simp [Value.oneCell']; done)) ?_
    intro W hW
    refine l_end ?_
    refine n_then ?_
    refine c_seq ?_
    refine c_reg ?_
    refine l_val (r_assign (v := .int _ _) rfl rfl) rfl rfl ?_
    refine l_end ?_
    refine n_then ?_
    refine c_seq ?_
    refine c_seq ?_
    refine c_reg ?_
    refine l_val (r_assign (v := .int _ _) rfl rfl) rfl rfl ?_
    refine l_end ?_
    refine n_then ?_
    refine c_block ?_
    refine c_loop (fun (i : Nat) (j : Nat → Value) => [keyV k, U64 n, U64 most, .pointer (some ⟨g1, 0, none⟩), j 4, j 5, .bool false, .bool true, U64 (number k n most), .pointer (some ⟨g2, 0, none⟩), U64 (packTo (byt (derive k 3 n)) i), .int .i64 (i : Int), .bool true, j 13, U64 n, U64 most, j 16, U64 most, .bool false, j 19, j 20, j 21, j 22, j 23, j 24, U64 n, j 26, j 27, j 28, j 29, j 30, j 31, j 32, j 33, j 34, j 35, j 36, j 37, j 38, j 39, j 40, j 41, j 42, j 43, j 44, j 45, j 46, j 47, j 48, j 49, j 50]) (fun (i : Nat) => [⟨g2, kc (derive k 3 n), 23⟩, ⟨g1, kc k, 23⟩]) (fun (i : Nat) => i ≤ 8) (fun (i : Nat) => 8 - i) 0 (by kernel_rfl) hW (by omega) ?_
    intro i j W hx hW
    refine c_seq ?_
    refine c_seq ?_
    refine c_reg ?_
    refine l_val (r_move (v := .int _ _) rfl rfl) rfl rfl ?_
    refine l_val (r_lssN (n := 8) rfl rfl rfl rfl) rfl rfl ?_
    refine l_split ?_ ?_
    · intro hc2
      replace hc2 := of_decide_eq_true hc2
      refine l_end ?_
      refine n_then ?_
      refine c_true rfl ?_
      refine c_skip ?_
      refine n_then ?_
      refine c_seq ?_
      refine c_block ?_
      refine c_reg ?_
      refine l_val (r_move (v := .int _ _) rfl rfl) rfl rfl ?_
      refine l_val (r_shl_u64 (s := 8) rfl rfl rfl (by omega)) rfl rfl ?_
      refine l_val (r_move (v := .int _ _) rfl rfl) rfl rfl ?_
      refine l_val (r_indexAddrArr1 Try.underlying23 tyC5.size rfl rfl rfl (by omega)) rfl rfl ?_
      refine l_loadC hW 0 tyC5 rfl rfl rfl rfl rfl (kc_get _ i (by omega)) ?_
      refine l_val (r_conv_u8_u64 Try.underlying5 Try.underlying31 rfl rfl) rfl rfl ?_
      refine l_val (r_or_u64 rfl rfl rfl) rfl rfl ?_
      refine l_val (r_assign (v := .int _ _) rfl rfl) rfl rfl ?_
      refine l_end ?_
      refine n_block ?_
      refine n_then ?_
      refine c_reg ?_
      refine l_val (r_move (v := .int _ _) rfl rfl) rfl rfl ?_
      refine l_val (r_addN (n := 1) rfl rfl rfl (by omega)) rfl rfl ?_
      refine l_val (r_assign (v := .int _ _) rfl rfl) rfl rfl ?_
      refine l_end ?_
      refine n_then ?_
      exact loop_next (i + 1) (by kernel_rfl) hW (by omega) (by omega)
    · intro hc2
      replace hc2 := of_decide_eq_false hc2
      obtain rfl : i = 8 := by omega
      have hv : packTo (byt (derive k 3 n)) 8 = (derive k 3 n).1 := by rw [← valTo_pack, valTo_hi]
      refine l_end ?_
      refine n_then ?_
      refine c_false rfl ?_
      refine c_exit ?_
      refine x_then ?_
      refine x_then ?_
      refine x_hit ?_
      refine n_then ?_
      refine c_seq ?_
      refine c_reg ?_
      refine l_val (r_move (v := .bool _) rfl rfl) rfl rfl ?_
      refine l_val (r_move (v := .bool _) rfl rfl) rfl rfl ?_
      refine l_valG (r_move (v := .int _ _) rfl rfl) (by kernel_rfl) rfl ?_
      refine l_valG (r_move (v := .int _ _) rfl rfl) (by kernel_rfl) rfl ?_
      refine l_valG (r_lssN (b := true) rfl rfl rfl (decide_eq_true (number_lt k n hc1))) (by kernel_rfl) rfl ?_
      refine l_val (r_pick (v := .bool _) rfl rfl rfl) rfl rfl ?_
      refine l_val (r_move (v := .bool _) rfl rfl) rfl rfl ?_
      refine l_valG (r_move (v := .int _ _) rfl rfl) (by kernel_rfl) rfl ?_
      refine l_valG (r_move (v := .int _ _) rfl rfl) (by kernel_rfl) rfl ?_
      refine l_valG (r_move (v := .int _ _) rfl rfl) (by kernel_rfl) rfl ?_
      refine l_valG (r_rem_u64 rfl rfl rfl hc1) (by kernel_rfl) rfl ?_
      refine l_valG (r_eql_u64 (b := true) rfl rfl rfl (decide_eq_true (by rw [number, if_neg hc1, hv]))) (by kernel_rfl) rfl ?_
      refine l_val (r_pick (v := .bool _) rfl rfl rfl) rfl rfl ?_
      refine l_val (r_assign (v := .bool _) rfl rfl) rfl rfl ?_
      refine l_end ?_
      refine n_then ?_
      refine c_ret ?_
      refine ret_tmp (v := .bool true) rfl ?_ ⟨rfl, hW.below⟩
      rfl

end Go.Proofs.Ytlabfinhdidmaaa
