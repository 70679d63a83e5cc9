/- Laws of chains. -/
import Derived.Test.YtlabfinhdidmaaaFacts
import Derived.Test.YtlabfinhdidmaaaVals
import Derived.Test.YtlabfinhdidmaaaC20
import Derived.Test.YtlabfinhdidmaaaVals5
namespace Go.Proofs.Ytlabfinhdidmaaa
open Go.RowKit Pl

set_option maxRecDepth 10000 in
/-- headend/headendlaw02.CipherChain -/
theorem g_CipherChainB (k : Kw) (a : Option Addr) (c : Nat) (l : Bs8) (hcap : l.length ≤ c) (hb : 16384 < l.length) : GivesR Try.prog 11 [keyV k, .slice a l.length c].toArray (fun w => Rd w a (bl l)) (.bool true) := by
  refine givesR_of Try.func11 rfl (bs := [keyV k, .slice a l.length c, undef, undef, undef, undef, undef, undef, undef, undef, undef, undef, undef, undef, undef, undef, undef, undef, undef, undef, undef, undef, undef, undef, undef, undef, undef, undef, undef, undef, undef, undef, undef, undef, undef, undef, undef, undef, undef, undef, undef, undef, undef, undef, undef, undef, undef, undef, undef, undef, undef, undef, undef, undef, undef, undef, undef]) rfl ?_
  intro w hP hW
  have hnp : nport l.length = (l.length + 15) / 16 := rfl
  refine c_seq ?_
  refine c_reg ?_
  refine l_box hW rfl rfl rfl rfl ?_
  intro g1 W hW
  refine l_val (r_assign (v := .bool _) rfl rfl) rfl rfl ?_
  refine l_end ?_
  refine n_then ?_
  refine c_seq ?_
  refine c_reg ?_
  refine l_call hW (g_alive) en37 rfl rfl rfl rfl ?_
  intro W hW
  refine l_val (r_assign (v := .bool _) rfl rfl) rfl rfl ?_
  refine l_end ?_
  refine n_then ?_
  refine c_seq ?_
  refine c_reg ?_
  refine l_loadA hW 0 tyA23 rfl rfl rfl rfl rfl (by first | rfl | exact kc_len _ | exact kcf_len _ | (simp; done)) ?_
  refine l_val (r_move (v := .slice _ _ _) rfl rfl) rfl rfl ?_
  refine l_callR hW (g_MacB k a c l hcap hb) en33 (hP.past hW.below) rfl rfl rfl rfl ?_
  intro W hW
  refine l_val (r_move (v := .tuple _) rfl rfl) rfl rfl ?_
  refine l_val (r_extract (v := .agg _) rfl rfl rfl) rfl rfl ?_
  refine l_val (r_extract (v := .int _ _) rfl rfl rfl) rfl rfl ?_
  refine l_alloc hW tyZ23 rfl rfl rfl ?_
  intro g2 W hW
  refine l_storeA hW 0 tyA23 rfl rfl rfl rfl rfl rfl (by first | rfl | exact kc_len _ | exact kcf_len _ | (simp; done)) (by first | rfl | exact kc_len _ | exact kcf_len _ | (simp; done)) (by first | exact kc_one _ | exact kcf_one _ | (simp [Value.oneCell']; done)) ?_
  intro W hW
  refine l_val (r_assign (v := .int _ _) rfl rfl) rfl rfl ?_
  refine l_end ?_
  refine n_then ?_
  refine c_seq ?_
  refine c_seq ?_
  refine c_reg ?_
  refine l_val (r_move (v := .slice _ _ _) rfl rfl) rfl rfl ?_
  refine l_val (r_lenSlice Try.underlying37 rfl rfl) rfl rfl ?_
  refine l_val (r_gtrN (b := true) (n := 16384) rfl rfl rfl (decide_eq_true (by omega))) rfl rfl ?_
  refine l_end ?_
  refine n_then ?_
  refine c_true rfl ?_
  refine c_seq ?_
  refine c_reg ?_
  refine l_val (r_move (v := .bool _) rfl rfl) rfl rfl ?_
  refine l_val (r_move (v := .bool _) rfl rfl) rfl rfl ?_
  refine l_valG (r_move (v := .int _ _) rfl rfl) (by kernel_rfl) rfl ?_
  refine l_valG (r_eqlN (b := true) (m := 4) (n := 4) rfl rfl rfl rfl) (by kernel_rfl) rfl ?_
  refine l_val (r_pick (v := .bool _) rfl rfl rfl) rfl rfl ?_
  refine l_val (r_assign (v := .bool _) rfl rfl) rfl rfl ?_
  refine l_end ?_
  refine n_then ?_
  refine c_ret ?_
  refine r_then ?_
  refine ret_tmp (v := .bool true) rfl ?_ ⟨rfl, hW.below⟩
  rfl

set_option maxRecDepth 10000 in
/-- headend/headendlaw02.CipherChain -/
theorem g_CipherChainS (k : Kw) (a : Option Addr) (c : Nat) (l : Bs8) (hcap : l.length ≤ c) (hb : ¬ 16384 < l.length) : GivesR Try.prog 11 [keyV k, .slice a l.length c].toArray (fun w => Rd w a (bl l)) (.bool true) := by
  refine givesR_of Try.func11 rfl (bs := [keyV k, .slice a l.length c, undef, undef, undef, undef, undef, undef, undef, undef, undef, undef, undef, undef, undef, undef, undef, undef, undef, undef, undef, undef, undef, undef, undef, undef, undef, undef, undef, undef, undef, undef, undef, undef, undef, undef, undef, undef, undef, undef, undef, undef, undef, undef, undef, undef, undef, undef, undef, undef, undef, undef, undef, undef, undef, undef, undef]) rfl ?_
  intro w hP hW
  have hnp : nport l.length = (l.length + 15) / 16 := rfl
  refine c_seq ?_
  refine c_reg ?_
  refine l_box hW rfl rfl rfl rfl ?_
  intro g1 W hW
  refine l_val (r_assign (v := .bool _) rfl rfl) rfl rfl ?_
  refine l_end ?_
  refine n_then ?_
  refine c_seq ?_
  refine c_reg ?_
  refine l_call hW (g_alive) en37 rfl rfl rfl rfl ?_
  intro W hW
  refine l_val (r_assign (v := .bool _) rfl rfl) rfl rfl ?_
  refine l_end ?_
  refine n_then ?_
  refine c_seq ?_
  refine c_reg ?_
  refine l_loadA hW 0 tyA23 rfl rfl rfl rfl rfl (by first | rfl | exact kc_len _ | exact kcf_len _ | (simp; done)) ?_
  refine l_val (r_move (v := .slice _ _ _) rfl rfl) rfl rfl ?_
  refine l_callR hW (g_MacS k a c l hcap hb) en33 (hP.past hW.below) rfl rfl rfl rfl ?_
  intro W hW
  refine l_val (r_move (v := .tuple _) rfl rfl) rfl rfl ?_
  refine l_val (r_extract (v := .agg _) rfl rfl rfl) rfl rfl ?_
  refine l_val (r_extract (v := .int _ _) rfl rfl rfl) rfl rfl ?_
  refine l_alloc hW tyZ23 rfl rfl rfl ?_
  intro g2 W hW
  refine l_storeA hW 0 tyA23 rfl rfl rfl rfl rfl rfl (by first | rfl | exact kc_len _ | exact kcf_len _ | (simp; done)) (by first | rfl | exact kc_len _ | exact kcf_len _ | (simp; done)) (by first | exact kc_one _ | exact kcf_one _ | (simp [Value.oneCell']; done)) ?_
  intro W hW
  refine l_val (r_assign (v := .int _ _) rfl rfl) rfl rfl ?_
  refine l_end ?_
  refine n_then ?_
  refine c_seq ?_
  refine c_seq ?_
  refine c_reg ?_
  refine l_val (r_move (v := .slice _ _ _) rfl rfl) rfl rfl ?_
  refine l_val (r_lenSlice Try.underlying37 rfl rfl) rfl rfl ?_
  refine l_val (r_gtrN (b := false) (n := 16384) rfl rfl rfl (decide_eq_false (by omega))) rfl rfl ?_
  refine l_end ?_
  refine n_then ?_
  refine c_false rfl ?_
  refine c_skip ?_
  refine n_then ?_
  refine c_seq ?_
  refine c_reg ?_
  refine l_loadA hW 1 tyA23 rfl rfl rfl rfl rfl (by first | rfl | exact kc_len _ | exact kcf_len _ | (simp; done)) ?_
  refine l_val (r_move (v := .slice _ _ _) rfl rfl) rfl rfl ?_
  refine l_val (r_lenSlice Try.underlying37 rfl rfl) rfl rfl ?_
  refine l_val (r_conv_i64_u64 Try.underlying3 Try.underlying31 rfl rfl) rfl rfl ?_
  refine l_call hW (g_Derive k 2 _) en23 rfl rfl rfl rfl ?_
  intro W hW
  refine l_alloc hW tyZ23 rfl rfl rfl ?_
  intro g3 W hW
  refine l_storeA hW 0 tyA23 rfl rfl rfl rfl rfl rfl (by first | rfl | exact kc_len _ | exact kcf_len _ | (simp; done)) (by first | rfl | exact kc_len _ | exact kcf_len _ | (simp; done)) (by first | exact kc_one _ | exact kcf_one _ | (simp [Value.oneCell']; done)) ?_
  intro W hW
  refine l_end ?_
  refine n_then ?_
  refine c_seq ?_
  refine c_reg ?_
  refine l_val (r_move (v := .slice _ _ _) rfl rfl) rfl rfl ?_
  refine l_callX hW (x_lportions a c l (by omega)) en38 (hP.past hW.below) rfl rfl rfl rfl ?_
  rintro _ _ W ⟨go, rfl, rfl⟩ hW
  replace hW := hW.perm List.perm_append_comm
  refine l_val (r_assign (v := .slice _ _ _) rfl rfl) rfl rfl ?_
  refine l_end ?_
  refine n_then ?_
  refine c_seq ?_
  refine c_seq ?_
  refine c_reg ?_
  refine l_val (r_assign (v := .int _ _) rfl rfl) rfl rfl ?_
  refine l_end ?_
  refine n_then ?_
  refine c_block ?_
  refine c_loop (fun (i : Nat) (j : Nat → Value) => [keyV k, .slice a l.length c, .pointer (some ⟨g1, 0, none⟩), j 3, .bool false, .bool true, .pointer (some ⟨g2, 0, none⟩), .int .i64 0, .pointer (some ⟨g3, 0, none⟩), .slice (some ⟨go, 0, none⟩) (nport l.length) (nport l.length), .int .i64 (i : Int), .bool true, j 12, j 13, .slice a l.length c, j 15, j 16, j 17, .slice a l.length c, j 19, .bool false, j 21, j 22, j 23, j 24, j 25, j 26, .slice a l.length c, j 28, j 29, j 30, .slice a l.length c, .slice (some ⟨go, 0, none⟩) (nport l.length) (nport l.length), j 33, j 34, j 35, j 36, j 37, j 38, j 39, j 40, j 41, j 42, j 43, j 44, j 45, j 46, j 47, j 48, j 49, j 50, j 51, j 52, j 53, j 54, j 55, j 56]) (fun (i : Nat) => [⟨go, pcs l (nport l.length) l.length, 23⟩, ⟨g3, kc (foldTo (macStep k) (derive k 2 (BitVec.ofNat 64 l.length)) l i), 23⟩, ⟨g2, kc (mac k l), 23⟩, ⟨g1, kc k, 23⟩]) (fun (i : Nat) => i ≤ nport l.length) (fun (i : Nat) => nport l.length - i) 0 (by kernel_rfl) hW (Nat.zero_le _) ?_
  intro i j W hx hW
  refine c_seq ?_
  refine c_seq ?_
  refine c_reg ?_
  refine l_val (r_move (v := .int _ _) rfl rfl) rfl rfl ?_
  refine l_val (r_move (v := .slice _ _ _) rfl rfl) rfl rfl ?_
  refine l_val (r_lenSlice Try.underlying52 rfl rfl) rfl rfl ?_
  refine l_val (r_lssN rfl rfl rfl rfl) rfl rfl ?_
  refine l_split ?_ ?_
  · intro hc1
    replace hc1 := of_decide_eq_true hc1
    refine l_end ?_
    refine n_then ?_
    refine c_true rfl ?_
    refine c_skip ?_
    refine n_then ?_
    refine c_seq ?_
    refine c_block ?_
    refine c_regY hW [1] [.q, .r, .q, .q, .q, .q, .q, .q, .s] (by kernel_rfl) (by kernel_rfl) ?_
    refine y_loadA 3 tyA23 rfl rfl rfl rfl rfl (by first | rfl | exact kc_len _ | exact kcf_len _ | (simp; done)) (by decide) ?_
    refine y_loadA1 1 tyA23 rfl rfl rfl rfl rfl (by first | rfl | exact kc_len _ | exact kcf_len _ | (simp; done)) ?_
    refine y_val (r_move (v := .slice _ _ _) rfl rfl) rfl rfl ?_
    refine y_val (r_move (v := .int _ _) rfl rfl) rfl rfl ?_
    refine y_val (r_indexAddrSl Try.underlying52 tyA23.size rfl rfl rfl (by omega)) rfl rfl ?_
    refine y_loadP 0 tyA23 rfl rfl rfl rfl rfl (by rw [pcs_len]; omega) (pcs_at0 l _ (by omega)) (by decide) ?_
    refine y_call (g_lXor _ _) en39 rfl rfl rfl rfl ?_
    refine y_call (g_Encrypt _ _) en27 rfl rfl rfl rfl ?_
    refine y_storeA 1 tyA23 rfl rfl rfl rfl rfl rfl (by first | rfl | exact kc_len _ | exact kcf_len _ | (simp; done)) (by first | rfl | exact kc_len _ | exact kcf_len _ | (simp; done)) (by first | exact kc_one _ | exact kcf_one _ | (simp [Value.oneCell']; done)) (by decide) ?_
    refine y_end ?_
    intro W hW
    refine n_block ?_
    refine n_then ?_
    refine c_reg ?_
    refine l_val (r_move (v := .int _ _) rfl rfl) rfl rfl ?_
    refine l_val (r_addN (n := 1) rfl rfl rfl (by omega)) rfl rfl ?_
    refine l_val (r_assign (v := .int _ _) rfl rfl) rfl rfl ?_
    refine l_end ?_
    refine n_then ?_
    exact loop_next (i + 1) (by kernel_rfl) hW (by omega) (by omega)
  · intro hc1
    replace hc1 := of_decide_eq_false hc1
    obtain rfl : i = nport l.length := by omega
    refine l_end ?_
    refine n_then ?_
    refine c_false rfl ?_
    refine c_exit ?_
    refine x_then ?_
    refine x_then ?_
    refine x_hit ?_
    refine n_then ?_
    refine c_seq ?_
    refine c_reg ?_
    refine l_val (r_move (v := .bool _) rfl rfl) rfl rfl ?_
    refine l_val (r_move (v := .bool _) rfl rfl) rfl rfl ?_
    refine l_valG (r_move (v := .int _ _) rfl rfl) (by kernel_rfl) rfl ?_
    refine l_valG (r_eqlN (b := true) (m := 0) (n := 0) rfl rfl rfl rfl) (by kernel_rfl) rfl ?_
    refine l_val (r_pick (v := .bool _) rfl rfl rfl) rfl rfl ?_
    refine l_val (r_move (v := .bool _) rfl rfl) rfl rfl ?_
    refine l_loadAG hW 2 tyA23 (by kernel_rfl) rfl rfl rfl rfl (by first | rfl | exact kc_len _ | exact kcf_len _ | (simp; done)) ?_
    refine l_loadAG hW 1 tyA23 (by kernel_rfl) rfl rfl rfl rfl (by first | rfl | exact kc_len _ | exact kcf_len _ | (simp; done)) ?_
    refine l_valG (r_eqlK tyK23 _ _ (c := true) rfl rfl rfl (decide_eq_true rfl)) (by kernel_rfl) rfl ?_
    refine l_val (r_pick (v := .bool _) rfl rfl rfl) rfl rfl ?_
    refine l_val (r_assign (v := .bool _) rfl rfl) rfl rfl ?_
    refine l_end ?_
    refine n_then ?_
    refine c_ret ?_
    refine ret_tmp (v := .bool true) rfl ?_ ⟨rfl, hW.below⟩
    rfl

set_option maxRecDepth 10000 in
/-- headend/headendlaw02.CipherDigest -/
theorem g_CipherDigestB (a : Option Addr) (c : Nat) (l : Bs8) (hcap : l.length ≤ c) (hnil : a = none → l.length = 0 ∧ c = 0) (_ : l.length ≤ 140737488351232) (hb : 16384 < l.length) : GivesR Try.prog 17 [.slice a l.length c].toArray (fun w => Rd w a (bl l)) (.bool true) := by
  refine givesR_of Try.func17 rfl (bs := [.slice a l.length c, undef, undef, undef, undef, undef, undef, undef, undef, undef, undef, undef, undef, undef, undef, undef, undef, undef, undef, undef, undef, undef, undef, undef, undef, undef, undef, undef, undef, undef, undef, undef, undef, undef, undef, undef, undef, undef, undef, undef, undef, undef, undef, undef, undef, undef, undef, undef, undef, undef, undef, undef, undef, undef, undef, undef, undef, undef, undef, undef, undef, undef, undef, undef, undef, undef, undef, undef, undef, undef, undef, undef, undef, undef, undef, undef, undef, undef, undef, undef]) rfl ?_
  intro w hP hW
  refine c_seq ?_
  refine c_reg ?_
  refine l_val (r_assign (v := .bool _) rfl rfl) rfl rfl ?_
  refine l_end ?_
  refine n_then ?_
  refine c_seq ?_
  refine c_reg ?_
  refine l_call hW (g_alive) en37 rfl rfl rfl rfl ?_
  intro W hW
  refine l_val (r_assign (v := .bool _) rfl rfl) rfl rfl ?_
  refine l_end ?_
  refine n_then ?_
  refine c_seq ?_
  refine c_reg ?_
  refine l_val (r_move (v := .slice _ _ _) rfl rfl) rfl rfl ?_
  refine l_callR hW (g_HashB a c l hcap hnil hb) en35 (hP.past hW.below) rfl rfl rfl rfl ?_
  intro W hW
  refine l_val (r_move (v := .tuple _) rfl rfl) rfl rfl ?_
  refine l_val (r_extract (v := .agg _) rfl rfl rfl) rfl rfl ?_
  refine l_val (r_extract (v := .int _ _) rfl rfl rfl) rfl rfl ?_
  refine l_alloc hW tyZ23 rfl rfl rfl ?_
  intro g1 W hW
  refine l_storeA hW 0 tyA23 rfl rfl rfl rfl rfl rfl (by first | rfl | exact kc_len _ | exact kcf_len _ | (simp; done)) (by first | rfl | exact kc_len _ | exact kcf_len _ | (simp; done)) (by first | exact kc_one _ | exact kcf_one _ | (simp [Value.oneCell']; done)) ?_
  intro W hW
  refine l_val (r_assign (v := .int _ _) rfl rfl) rfl rfl ?_
  refine l_end ?_
  refine n_then ?_
  refine c_seq ?_
  refine c_seq ?_
  refine c_reg ?_
  refine l_val (r_move (v := .slice _ _ _) rfl rfl) rfl rfl ?_
  refine l_val (r_lenSlice Try.underlying37 rfl rfl) rfl rfl ?_
  refine l_val (r_gtrN (b := true) (n := 16384) rfl rfl rfl (decide_eq_true (by omega))) rfl rfl ?_
  refine l_end ?_
  refine n_then ?_
  refine c_true rfl ?_
  refine c_seq ?_
  refine c_reg ?_
  refine l_val (r_move (v := .bool _) rfl rfl) rfl rfl ?_
  refine l_val (r_move (v := .bool _) rfl rfl) rfl rfl ?_
  refine l_valG (r_move (v := .int _ _) rfl rfl) (by kernel_rfl) rfl ?_
  refine l_valG (r_eqlN (b := true) (m := 4) (n := 4) rfl rfl rfl rfl) (by kernel_rfl) rfl ?_
  refine l_val (r_pick (v := .bool _) rfl rfl rfl) rfl rfl ?_
  refine l_val (r_assign (v := .bool _) rfl rfl) rfl rfl ?_
  refine l_end ?_
  refine n_then ?_
  refine c_ret ?_
  refine r_then ?_
  refine ret_tmp (v := .bool true) rfl ?_ ⟨rfl, hW.below⟩
  rfl

set_option maxRecDepth 10000 in
/-- headend/headendlaw02.CipherDigest -/
theorem g_CipherDigestS (a : Option Addr) (c : Nat) (l : Bs8) (hcap : l.length ≤ c) (hnil : a = none → l.length = 0 ∧ c = 0) (hmax : l.length ≤ 140737488351232) (hb : ¬ 16384 < l.length) : GivesR Try.prog 17 [.slice a l.length c].toArray (fun w => Rd w a (bl l)) (.bool true) := by
  refine givesR_of Try.func17 rfl (bs := [.slice a l.length c, undef, undef, undef, undef, undef, undef, undef, undef, undef, undef, undef, undef, undef, undef, undef, undef, undef, undef, undef, undef, undef, undef, undef, undef, undef, undef, undef, undef, undef, undef, undef, undef, undef, undef, undef, undef, undef, undef, undef, undef, undef, undef, undef, undef, undef, undef, undef, undef, undef, undef, undef, undef, undef, undef, undef, undef, undef, undef, undef, undef, undef, undef, undef, undef, undef, undef, undef, undef, undef, undef, undef, undef, undef, undef, undef, undef, undef, undef, undef]) rfl ?_
  intro w hP hW
  have hz : zc l.length ≤ 15 := by unfold zc; omega
  have hA : (l ++ pad l.length).length = l.length + (zc l.length + 9) := by rw [List.length_append, pad_len]
  have hnp : nport (l ++ pad l.length).length = ((l ++ pad l.length).length + 15) / 16 := rfl
  refine c_seq ?_
  refine c_reg ?_
  refine l_val (r_assign (v := .bool _) rfl rfl) rfl rfl ?_
  refine l_end ?_
  refine n_then ?_
  refine c_seq ?_
  refine c_reg ?_
  refine l_call hW (g_alive) en37 rfl rfl rfl rfl ?_
  intro W hW
  refine l_val (r_assign (v := .bool _) rfl rfl) rfl rfl ?_
  refine l_end ?_
  refine n_then ?_
  refine c_seq ?_
  refine c_reg ?_
  refine l_val (r_move (v := .slice _ _ _) rfl rfl) rfl rfl ?_
  refine l_callR hW (g_HashS a c l hcap hnil hb) en35 (hP.past hW.below) rfl rfl rfl rfl ?_
  intro W hW
  refine l_val (r_move (v := .tuple _) rfl rfl) rfl rfl ?_
  refine l_val (r_extract (v := .agg _) rfl rfl rfl) rfl rfl ?_
  refine l_val (r_extract (v := .int _ _) rfl rfl rfl) rfl rfl ?_
  refine l_alloc hW tyZ23 rfl rfl rfl ?_
  intro g1 W hW
  refine l_storeA hW 0 tyA23 rfl rfl rfl rfl rfl rfl (by first | rfl | exact kc_len _ | exact kcf_len _ | (simp; done)) (by first | rfl | exact kc_len _ | exact kcf_len _ | (simp; done)) (by first | exact kc_one _ | exact kcf_one _ | (simp [Value.oneCell']; done)) ?_
  intro W hW
  refine l_val (r_assign (v := .int _ _) rfl rfl) rfl rfl ?_
  refine l_end ?_
  refine n_then ?_
  refine c_seq ?_
  refine c_seq ?_
  refine c_reg ?_
  refine l_val (r_move (v := .slice _ _ _) rfl rfl) rfl rfl ?_
  refine l_val (r_lenSlice Try.underlying37 rfl rfl) rfl rfl ?_
  refine l_val (r_gtrN (b := false) (n := 16384) rfl rfl rfl (decide_eq_false (by omega))) rfl rfl ?_
  refine l_end ?_
  refine n_then ?_
  refine c_false rfl ?_
  refine c_skip ?_
  refine n_then ?_
  refine c_seq ?_
  refine c_reg ?_
  refine l_buildSliceF hW bsl37_0_ rfl rfl rfl rfl ?_
  intro gq W hW
  refine l_val (r_move (v := .slice _ _ _) rfl rfl) rfl rfl ?_
  refine l_appendR tyE37 (OwnSl.full (g := gq) (n := 0) (vs := []) rfl (by decide)) (hW.perm (List.perm_append_singleton _ _).symm) (hP.past hW.below) (N := l.length) (Nat.zero_add _) rfl rfl rfl rfl rfl (bl_len l) hnil (bl_one _) (by unfold maxLen; omega) (by omega) ?_
  intro a1 c1 Bs1 W hO1 hW
  rw [List.nil_append] at hO1
  refine l_val (r_assign (v := .slice _ _ _) rfl rfl) rfl rfl ?_
  refine l_end ?_
  refine n_then ?_
  refine c_seq ?_
  refine c_reg ?_
  refine l_val (r_move (v := .slice _ _ _) rfl rfl) rfl rfl ?_
  refine l_buildSlice1 (v := .int _ _) hW Try.underlying37 tyC5 tyZ5 rfl rfl rfl rfl rfl ?_
  intro gr W hW
  refine l_appendO tyE37 (L := [_]) hO1 (OwnSl.full (g := gr) (n := 1) (vs := [B8 128#8]) rfl (by decide)) (hW.perm (List.perm_append_singleton _ _).symm) (N := l.length + 1) rfl rfl rfl rfl rfl rfl (bl_one [128#8]) (by unfold maxLen; omega) (by omega) ?_
  intro a2 c2 Bs2 W hO2 hW
  replace hO2 : OwnSl 5 1 a2 (l.length + 1) c2 (bl (l ++ padTo 0)) Bs2 := by rw [bl_append]; exact hO2
  refine l_val (r_assign (v := .slice _ _ _) rfl rfl) rfl rfl ?_
  refine l_end ?_
  refine n_then ?_
  refine c_seq ?_
  refine c_block ?_
  refine c_loop (fun (x : Nat × Nat × Option Addr × Nat × List Blk) (j : Nat → Value) => [.slice a l.length c, j 1, .bool false, .bool true, .pointer (some ⟨g1, 0, none⟩), .int .i64 0, .slice x.2.2.1 x.2.1 x.2.2.2.1, j 7, j 8, j 9, j 10, .bool true, j 12, .slice a l.length c, j 14, j 15, j 16, .slice a l.length c, j 18, .bool false, j 20, j 21, j 22, j 23, j 24, j 25, .slice a l.length c, j 27, j 28, j 29, j 30, j 31, j 32, j 33, j 34, j 35, j 36, j 37, j 38, j 39, j 40, j 41, j 42, j 43, j 44, j 45, j 46, j 47, j 48, j 49, j 50, j 51, j 52, j 53, j 54, j 55, j 56, j 57, j 58, j 59, j 60, j 61, j 62, j 63, j 64, j 65, j 66, j 67, j 68, j 69, j 70, j 71, j 72, j 73, j 74, j 75, j 76, j 77, j 78, j 79]) (fun (x : Nat × Nat × Option Addr × Nat × List Blk) => [⟨g1, kc (hash l), 23⟩] ++ x.2.2.2.2) (fun (x : Nat × Nat × Option Addr × Nat × List Blk) => x.1 ≤ zc l.length ∧ x.2.1 = l.length + 1 + x.1 ∧ OwnSl 5 1 x.2.2.1 x.2.1 x.2.2.2.1 (bl (l ++ padTo x.1)) x.2.2.2.2) (fun (x : Nat × Nat × Option Addr × Nat × List Blk) => zc l.length - x.1) (0, l.length + 1, a2, c2, Bs2) (by kernel_rfl) hW ⟨Nat.zero_le _, rfl, hO2⟩ ?_
  intro x j W hx hW
  obtain ⟨j0, n3, a3, c3, Bs3⟩ := x
  have hk : j0 ≤ zc l.length := hx.1
  have hn3 : n3 = l.length + 1 + j0 := hx.2.1
  have hO3 : OwnSl 5 1 a3 n3 c3 (bl (l ++ padTo j0)) Bs3 := hx.2.2
  replace hW : Cl (base w) ([⟨g1, kc (hash l), 23⟩] ++ Bs3) W := hW
  refine c_seq ?_
  refine c_seq ?_
  refine c_reg ?_
  refine l_val (r_move (v := .slice _ _ _) rfl rfl) rfl rfl ?_
  refine l_val (r_lenSlice Try.underlying37 rfl rfl) rfl rfl ?_
  refine l_val (r_remN (m := n3) (n := 16) rfl rfl rfl (by omega)) rfl rfl ?_
  refine l_val (r_neqN (m := n3 % 16) (n := 8) rfl rfl rfl rfl) rfl rfl ?_
  refine l_split ?_ ?_
  · intro hc1
    replace hc1 := of_decide_eq_true hc1
    have hk1 : j0 + 1 ≤ zc l.length := by unfold zc at hk ⊢; omega
    refine l_end ?_
    refine n_then ?_
    refine c_true rfl ?_
    refine c_skip ?_
    refine n_then ?_
    refine c_block ?_
    refine c_reg ?_
    refine l_val (r_move (v := .slice _ _ _) rfl rfl) rfl rfl ?_
    refine l_buildSlice1 (v := .int _ _) hW Try.underlying37 tyC5 tyZ5 rfl rfl rfl rfl rfl ?_
    intro gr W hW
    refine l_appendO tyE37 (L := [_]) hO3 (OwnSl.full (g := gr) (n := 1) (vs := [B8 0#8]) rfl (by decide)) (hW.perm (List.perm_append_singleton _ _).symm) (N := n3 + 1) rfl rfl rfl rfl rfl rfl (bl_one [0#8]) (by unfold maxLen; omega) (by omega) ?_
    intro a4 c4 Bs4 W hO4 hW
    rw [padL_succ] at hO4
    refine l_val (r_assign (v := .slice _ _ _) rfl rfl) rfl rfl ?_
    refine l_end ?_
    refine n_block ?_
    refine n_then ?_
    exact loop_next (j0 + 1, n3 + 1, a4, c4, Bs4) (by kernel_rfl) hW ⟨hk1, by show n3 + 1 = l.length + 1 + (j0 + 1); omega, hO4⟩ (by show zc l.length - (j0 + 1) < zc l.length - j0; omega)
  · intro hc1
    replace hc1 := of_decide_eq_false hc1
    obtain rfl : j0 = zc l.length := by unfold zc at hk ⊢; omega
    refine l_end ?_
    refine n_then ?_
    refine c_false rfl ?_
    refine c_exit ?_
    refine x_then ?_
    refine x_then ?_
    refine x_hit ?_
    refine n_then ?_
    refine c_seq ?_
    refine c_reg ?_
    refine l_val (r_move (v := .slice _ _ _) rfl rfl) rfl rfl ?_
    refine l_val (r_move (v := .slice _ _ _) rfl rfl) rfl rfl ?_
    refine l_val (r_lenSlice Try.underlying37 rfl rfl) rfl rfl ?_
    refine l_val (r_shr_i64N (n := l.length) (s := 8) rfl rfl rfl (by decide)) rfl rfl ?_
    refine l_val (r_conv_i64_u8 Try.underlying3 Try.underlying5 rfl rfl) rfl rfl ?_
    refine l_val (r_move (v := .slice _ _ _) rfl rfl) rfl rfl ?_
    refine l_val (r_lenSlice Try.underlying37 rfl rfl) rfl rfl ?_
    refine l_val (r_conv_i64_u8 Try.underlying3 Try.underlying5 rfl rfl) rfl rfl ?_
    refine l_buildSliceF hW (bsl37_8_0_1_2_3_4_5_6_7 _ _ _ _ _ _ _ _) rfl rfl rfl rfl ?_
    intro gz W hW
    refine l_appendO tyE37 (L := [_]) hO3 (OwnSl.full (g := gz) (n := 8) (vs := [.int .u8 0, .int .u8 0, .int .u8 0, .int .u8 0, .int .u8 0, .int .u8 0, B8 (BitVec.ofNat 8 (l.length / 2 ^ 8)), B8 (BitVec.ofNat 8 l.length)]) rfl (by decide)) (hW.perm (List.perm_append_singleton _ _).symm) (N := (l ++ pad l.length).length) (by omega) rfl rfl rfl rfl rfl (by simp [Value.oneCell']) (by unfold maxLen; omega) (by omega) ?_
    intro a5 c5 Bs5 W hO5 hW
    rw [padL_all l (by omega)] at hO5
    refine l_val (r_assign (v := .slice _ _ _) rfl rfl) rfl rfl ?_
    refine l_end ?_
    refine n_then ?_
    refine c_seq ?_
    refine c_reg ?_
    refine l_alloc hW tyZ23 rfl rfl rfl ?_
    intro g2 W hW
    refine l_end ?_
    refine n_then ?_
    refine c_seq ?_
    refine c_seq ?_
    refine c_reg ?_
    refine l_val (r_assign (v := .int _ _) rfl rfl) rfl rfl ?_
    refine l_end ?_
    refine n_then ?_
    refine c_block ?_
    refine c_loop (fun (i : Nat) (j : Nat → Value) => [.slice a l.length c, j 1, .bool false, .bool true, .pointer (some ⟨g1, 0, none⟩), .int .i64 0, .slice a5 (l ++ pad l.length).length c5, .pointer (some ⟨g2, 0, none⟩), .int .i64 (i : Int), j 9, j 10, .bool true, j 12, .slice a l.length c, j 14, j 15, j 16, .slice a l.length c, j 18, .bool false, j 20, j 21, j 22, j 23, j 24, j 25, .slice a l.length c, j 27, j 28, j 29, j 30, .slice a3 n3 c3, j 32, j 33, .bool false, j 35, j 36, j 37, .slice a3 n3 c3, .slice a l.length c, j 40, j 41, j 42, .slice a l.length c, j 44, j 45, j 46, j 47, j 48, j 49, j 50, j 51, j 52, j 53, j 54, j 55, j 56, j 57, j 58, j 59, j 60, j 61, j 62, j 63, j 64, j 65, j 66, j 67, j 68, j 69, j 70, j 71, j 72, j 73, j 74, j 75, j 76, j 77, j 78, j 79]) (fun (i : Nat) => [⟨g2, kcf (upto (fun _ => 0x5a#8) i), 23⟩, ⟨g1, kc (hash l), 23⟩] ++ Bs5) (fun (i : Nat) => i ≤ 16) (fun (i : Nat) => 16 - i) 0 (by kernel_rfl) (hW.to (by simp only [upto_zero]; rfl)) (by omega) ?_
    intro i j W hx hW
    refine c_seq ?_
    refine c_seq ?_
    refine c_reg ?_
    refine l_val (r_move (v := .int _ _) rfl rfl) rfl rfl ?_
    refine l_val (r_lssN (n := 16) rfl rfl rfl rfl) rfl rfl ?_
    refine l_split ?_ ?_
    · intro hc2
      replace hc2 := of_decide_eq_true hc2
      refine l_end ?_
      refine n_then ?_
      refine c_true rfl ?_
      refine c_skip ?_
      refine n_then ?_
      refine c_seq ?_
      refine c_block ?_
      refine c_reg ?_
      refine l_val (r_move (v := .int _ _) rfl rfl) rfl rfl ?_
      refine l_val (r_indexAddrArr1 Try.underlying23 tyC5.size rfl rfl rfl (by omega)) rfl rfl ?_
      refine l_storeC hW 0 tyC5 (v := .int _ _) rfl rfl rfl rfl rfl rfl (by rw [kcf_len]; omega) rfl ?_
      intro W hW
      refine l_end ?_
      refine n_block ?_
      refine n_then ?_
      refine c_reg ?_
      refine l_val (r_move (v := .int _ _) rfl rfl) rfl rfl ?_
      refine l_val (r_addN (n := 1) rfl rfl rfl (by omega)) rfl rfl ?_
      refine l_val (r_assign (v := .int _ _) rfl rfl) rfl rfl ?_
      refine l_end ?_
      refine n_then ?_
      exact loop_next (i + 1) (by kernel_rfl) (hW.to (by rw [← upto_set]; rfl)) (by omega) (by omega)
    · intro hc2
      replace hc2 := of_decide_eq_false hc2
      obtain rfl : i = 16 := by omega
      rw [kc_s5a] at hW
      refine l_end ?_
      refine n_then ?_
      refine c_false rfl ?_
      refine c_exit ?_
      refine x_then ?_
      refine x_then ?_
      refine x_hit ?_
      refine n_then ?_
      refine c_seq ?_
      refine c_reg ?_
      refine l_val (r_move (v := .slice _ _ _) rfl rfl) rfl rfl ?_
      refine l_callX hW (x_lportions a5 c5 (l ++ pad l.length) (by omega)) en38 (hO5.rd (L := [_, _]) hW) rfl rfl rfl rfl ?_
      rintro _ _ W ⟨go, rfl, rfl⟩ hW
      replace hW := hW.perm List.perm_append_comm
      refine l_val (r_assign (v := .slice _ _ _) rfl rfl) rfl rfl ?_
      refine l_end ?_
      refine n_then ?_
      refine c_seq ?_
      refine c_seq ?_
      refine c_reg ?_
      refine l_val (r_assign (v := .int _ _) rfl rfl) rfl rfl ?_
      refine l_end ?_
      refine n_then ?_
      refine c_block ?_
      refine c_loop (fun (i : Nat) (j : Nat → Value) => [.slice a l.length c, j 1, .bool false, .bool true, .pointer (some ⟨g1, 0, none⟩), .int .i64 0, .slice a5 (l ++ pad l.length).length c5, .pointer (some ⟨g2, 0, none⟩), j 8, .slice (some ⟨go, 0, none⟩) (nport (l ++ pad l.length).length) (nport (l ++ pad l.length).length), .int .i64 (i : Int), .bool true, j 12, .slice a l.length c, j 14, j 15, j 16, .slice a l.length c, j 18, .bool false, j 20, j 21, j 22, j 23, j 24, j 25, .slice a l.length c, j 27, j 28, j 29, j 30, .slice a3 n3 c3, j 32, j 33, .bool false, j 35, j 36, j 37, .slice a3 n3 c3, .slice a l.length c, j 40, j 41, j 42, .slice a l.length c, j 44, j 45, j 46, j 47, j 48, .bool false, j 50, j 51, j 52, j 53, j 54, .slice (some ⟨go, 0, none⟩) (nport (l ++ pad l.length).length) (nport (l ++ pad l.length).length), j 56, j 57, j 58, j 59, j 60, j 61, j 62, j 63, j 64, j 65, j 66, j 67, j 68, j 69, j 70, j 71, j 72, j 73, j 74, j 75, j 76, j 77, j 78, j 79]) (fun (i : Nat) => [⟨go, pcs (l ++ pad l.length) (nport (l ++ pad l.length).length) (l ++ pad l.length).length, 23⟩, ⟨g2, kc (foldTo hashStep s5a (l ++ pad l.length) i), 23⟩, ⟨g1, kc (hash l), 23⟩] ++ Bs5) (fun (i : Nat) => i ≤ nport (l ++ pad l.length).length) (fun (i : Nat) => nport (l ++ pad l.length).length - i) 0 (by kernel_rfl) hW (Nat.zero_le _) ?_
      intro i j W hx hW
      refine c_seq ?_
      refine c_seq ?_
      refine c_reg ?_
      refine l_val (r_move (v := .int _ _) rfl rfl) rfl rfl ?_
      refine l_val (r_move (v := .slice _ _ _) rfl rfl) rfl rfl ?_
      refine l_val (r_lenSlice Try.underlying52 rfl rfl) rfl rfl ?_
      refine l_val (r_lssN rfl rfl rfl rfl) rfl rfl ?_
      refine l_split ?_ ?_
      · intro hc3
        replace hc3 := of_decide_eq_true hc3
        refine l_end ?_
        refine n_then ?_
        refine c_true rfl ?_
        refine c_skip ?_
        refine n_then ?_
        refine c_seq ?_
        refine c_block ?_
        refine c_regY hW [1] [.q, .q, .q, .q, .r, .q, .r, .q, .s] (by kernel_rfl) (by kernel_rfl) ?_
        refine y_val (r_move (v := .slice _ _ _) rfl rfl) rfl rfl ?_
        refine y_val (r_move (v := .int _ _) rfl rfl) rfl rfl ?_
        refine y_val (r_indexAddrSl Try.underlying52 tyA23.size rfl rfl rfl (by omega)) rfl rfl ?_
        refine y_loadP 0 tyA23 rfl rfl rfl rfl rfl (by rw [pcs_len]; omega) (pcs_at0 (l ++ pad l.length) _ (by omega)) (by decide) ?_
        refine y_loadA1 1 tyA23 rfl rfl rfl rfl rfl (by first | rfl | exact kc_len _ | exact kcf_len _ | (simp; done)) ?_
        refine y_call (g_Encrypt _ _) en27 rfl rfl rfl rfl ?_
        refine y_loadA1 1 tyA23 rfl rfl rfl rfl rfl (by first | rfl | exact kc_len _ | exact kcf_len _ | (simp; done)) ?_
        refine y_call (g_lXor _ _) en39 rfl rfl rfl rfl ?_
        refine y_storeA 1 tyA23 rfl rfl rfl rfl rfl rfl (by first | rfl | exact kc_len _ | exact kcf_len _ | (simp; done)) (by first | rfl | exact kc_len _ | exact kcf_len _ | (simp; done)) (by first | exact kc_one _ | exact kcf_one _ | (simp [Value.oneCell']; done)) (by decide) ?_
        refine y_end ?_
        intro W hW
        refine n_block ?_
        refine n_then ?_
        refine c_reg ?_
        refine l_val (r_move (v := .int _ _) rfl rfl) rfl rfl ?_
        refine l_val (r_addN (n := 1) rfl rfl rfl (by omega)) rfl rfl ?_
        refine l_val (r_assign (v := .int _ _) rfl rfl) rfl rfl ?_
        refine l_end ?_
        refine n_then ?_
        exact loop_next (i + 1) (by kernel_rfl) hW (by omega) (by omega)
      · intro hc3
        replace hc3 := of_decide_eq_false hc3
        obtain rfl : i = nport (l ++ pad l.length).length := by omega
        refine l_end ?_
        refine n_then ?_
        refine c_false rfl ?_
        refine c_exit ?_
        refine x_then ?_
        refine x_then ?_
        refine x_hit ?_
        refine n_then ?_
        refine c_seq ?_
        refine c_reg ?_
        refine l_val (r_move (v := .bool _) rfl rfl) rfl rfl ?_
        refine l_val (r_move (v := .bool _) rfl rfl) rfl rfl ?_
        refine l_valG (r_move (v := .int _ _) rfl rfl) (by kernel_rfl) rfl ?_
        refine l_valG (r_eqlN (b := true) (m := 0) (n := 0) rfl rfl rfl rfl) (by kernel_rfl) rfl ?_
        refine l_val (r_pick (v := .bool _) rfl rfl rfl) rfl rfl ?_
        refine l_val (r_move (v := .bool _) rfl rfl) rfl rfl ?_
        refine l_loadAG hW 2 tyA23 (by kernel_rfl) rfl rfl rfl rfl (by first | rfl | exact kc_len _ | exact kcf_len _ | (simp; done)) ?_
        refine l_loadAG hW 1 tyA23 (by kernel_rfl) rfl rfl rfl rfl (by first | rfl | exact kc_len _ | exact kcf_len _ | (simp; done)) ?_
        refine l_valG (r_eqlK tyK23 _ _ (c := true) rfl rfl rfl (decide_eq_true rfl)) (by kernel_rfl) rfl ?_
        refine l_val (r_pick (v := .bool _) rfl rfl rfl) rfl rfl ?_
        refine l_val (r_assign (v := .bool _) rfl rfl) rfl rfl ?_
        refine l_end ?_
        refine n_then ?_
        refine c_ret ?_
        refine ret_tmp (v := .bool true) rfl ?_ ⟨rfl, hW.below⟩
        rfl

end Go.Proofs.Ytlabfinhdidmaaa
