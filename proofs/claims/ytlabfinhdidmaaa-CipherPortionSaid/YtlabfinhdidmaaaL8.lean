/- Law of portions that are written over. -/
import Derived.Test.YtlabfinhdidmaaaFacts
import Derived.Test.YtlabfinhdidmaaaVals
import Derived.Test.YtlabfinhdidmaaaC21
import Derived.Test.YtlabfinhdidmaaaVals6
namespace Go.Proofs.Ytlabfinhdidmaaa
open Go.RowKit Pl

set_option maxRecDepth 10000 in
/-- headend/headendlaw02.CipherPortion -/
theorem g_CipherPortion (k : Kw) (a : Option Addr) (c : Nat) (l : Bs8) (z : Int) (p : Kw) (hcap : l.length ≤ c) (hnil : a = none → l.length = 0 ∧ c = 0) (hmax : l.length ≤ 140737488351232) : GivesR Try.prog 12 [keyV k, .slice a l.length c, .int .i64 z, keyV p].toArray (fun w => Rd w a (bl l)) (.bool true) := by
  refine givesR_of Try.func12 rfl (bs := [keyV k, .slice a l.length c, .int .i64 z, keyV p, undef, undef, undef, undef, undef, undef, undef, undef, undef, undef, undef, undef, undef, undef, undef, undef, undef, undef, undef, undef, undef, undef, undef, undef, undef, undef, undef, undef, undef, undef, undef, undef, undef, undef, undef, undef, undef, undef, undef, undef, undef, undef, undef, undef, undef, undef, undef, undef, undef, undef, undef, undef, undef, undef, undef, undef, undef, undef, undef, undef, undef, undef, undef, undef, undef, undef, undef, undef, undef, undef, undef, undef, undef, undef, undef, undef, undef, undef, undef, undef, undef, undef, undef, undef, undef, undef]) rfl ?_
  intro w hP hW
  have hnp : nport l.length = (l.length + 15) / 16 := rfl
  refine c_seq ?_
  refine c_reg ?_
  refine l_box hW rfl rfl rfl rfl ?_
  intro g1 W hW
  refine l_box hW rfl rfl rfl rfl ?_
  intro g2 W hW
  refine l_val (r_assign (v := .bool _) rfl rfl) rfl rfl ?_
  refine l_end ?_
  refine n_then ?_
  refine c_seq ?_
  refine c_reg ?_
  refine l_call hW (g_alive) en37 rfl rfl rfl rfl ?_
  intro W hW
  refine l_val (r_assign (v := .bool _) rfl rfl) rfl rfl ?_
  refine l_end ?_
  refine n_then ?_
  refine c_seq ?_
  refine c_seq ?_
  refine c_reg ?_
  refine l_val (r_move (v := .slice _ _ _) rfl rfl) rfl rfl ?_
  refine l_val (r_lenSlice Try.underlying37 rfl rfl) rfl rfl ?_
  refine l_val (r_gtrN (n := 16384) rfl rfl rfl rfl) rfl rfl ?_
  refine l_split ?_ ?_
  · intro hc1
    replace hc1 := of_decide_eq_true hc1
    refine l_val (r_move (v := .bool _) rfl rfl) rfl rfl ?_
    refine l_not (by kernel_rfl) rfl ?_
    refine l_not (by kernel_rfl) rfl ?_
    refine l_val (r_pick (v := .bool _) rfl rfl rfl) rfl rfl ?_
    refine l_val (r_move (v := .bool _) rfl rfl) rfl rfl ?_
    refine l_not (by kernel_rfl) rfl ?_
    refine l_not (by kernel_rfl) rfl ?_
    refine l_not (by kernel_rfl) rfl ?_
    refine l_not (by kernel_rfl) rfl ?_
    refine l_not (by kernel_rfl) rfl ?_
    refine l_not (by kernel_rfl) rfl ?_
    refine l_val (r_pick (v := .bool _) rfl rfl rfl) rfl rfl ?_
    refine l_end ?_
    refine n_then ?_
    refine c_true rfl ?_
    refine c_seq ?_
    refine c_reg ?_
    refine l_val (r_move (v := .bool _) rfl rfl) rfl rfl ?_
    refine l_val (r_assign (v := .bool _) rfl rfl) rfl rfl ?_
    refine l_end ?_
    refine n_then ?_
    refine c_ret ?_
    refine r_then ?_
    refine ret_tmp (v := .bool true) rfl ?_ ⟨rfl, hW.below⟩
    rfl
  · intro hc1
    replace hc1 := of_decide_eq_false hc1
    refine l_val (r_move (v := .bool _) rfl rfl) rfl rfl ?_
    refine l_valG (r_move (v := .int _ _) rfl rfl) (by kernel_rfl) rfl ?_
    refine l_valG (r_lss (m := z) (n := 0) rfl rfl rfl rfl) (by kernel_rfl) rfl ?_
    refine l_split ?_ ?_
    · intro hc2
      replace hc2 := of_decide_eq_true hc2
      refine l_val (r_pick (v := .bool _) rfl rfl rfl) rfl rfl ?_
      refine l_val (r_move (v := .bool _) rfl rfl) rfl rfl ?_
      refine l_not (by kernel_rfl) rfl ?_
      refine l_not (by kernel_rfl) rfl ?_
      refine l_not (by kernel_rfl) rfl ?_
      refine l_not (by kernel_rfl) rfl ?_
      refine l_not (by kernel_rfl) rfl ?_
      refine l_not (by kernel_rfl) rfl ?_
      refine l_val (r_pick (v := .bool _) rfl rfl rfl) rfl rfl ?_
      refine l_end ?_
      refine n_then ?_
      refine c_true rfl ?_
      refine c_seq ?_
      refine c_reg ?_
      refine l_val (r_move (v := .bool _) rfl rfl) rfl rfl ?_
      refine l_val (r_assign (v := .bool _) rfl rfl) rfl rfl ?_
      refine l_end ?_
      refine n_then ?_
      refine c_ret ?_
      refine r_then ?_
      refine ret_tmp (v := .bool true) rfl ?_ ⟨rfl, hW.below⟩
      rfl
    · intro hc2
      replace hc2 := of_decide_eq_false hc2
      refine l_val (r_pick (v := .bool _) rfl rfl rfl) rfl rfl ?_
      refine l_val (r_move (v := .bool _) rfl rfl) rfl rfl ?_
      refine l_valG (r_move (v := .int _ _) rfl rfl) (by kernel_rfl) rfl ?_
      refine l_valG (r_move (v := .slice _ _ _) rfl rfl) (by kernel_rfl) rfl ?_
      refine l_valG (r_lenSlice Try.underlying37 rfl rfl) (by kernel_rfl) rfl ?_
      refine l_valG (r_addN (n := 15) rfl rfl rfl (by omega)) (by kernel_rfl) rfl ?_
      refine l_valG (r_quoN (m := l.length + 15) (n := 16) rfl rfl rfl (by omega) (by omega)) (by kernel_rfl) rfl ?_
      refine l_valG (r_geq (m := z) (n := ((nport l.length : Nat) : Int)) rfl rfl rfl rfl) (by kernel_rfl) rfl ?_
      refine l_split ?_ ?_
      · intro hc3
        replace hc3 := of_decide_eq_true hc3
        refine l_val (r_pick (v := .bool _) rfl rfl rfl) rfl rfl ?_
        refine l_end ?_
        refine n_then ?_
        refine c_true rfl ?_
        refine c_seq ?_
        refine c_reg ?_
        refine l_val (r_move (v := .bool _) rfl rfl) rfl rfl ?_
        refine l_val (r_assign (v := .bool _) rfl rfl) rfl rfl ?_
        refine l_end ?_
        refine n_then ?_
        refine c_ret ?_
        refine r_then ?_
        refine ret_tmp (v := .bool true) rfl ?_ ⟨rfl, hW.below⟩
        rfl
      · intro hc3
        replace hc3 := of_decide_eq_false hc3
        obtain ⟨q, rfl⟩ : ∃ q : Nat, z = q := ⟨z.toNat, by omega⟩
        have hq : q < nport l.length := by omega
        refine l_val (r_pick (v := .bool _) rfl rfl rfl) rfl rfl ?_
        refine l_end ?_
        refine n_then ?_
        refine c_false rfl ?_
        refine c_skip ?_
        refine n_then ?_
        refine c_seq ?_
        refine c_reg ?_
        refine l_buildSliceF hW bsl37_0_ rfl rfl rfl rfl ?_
        intro gq W hW
        refine l_val (r_move (v := .slice _ _ _) rfl rfl) rfl rfl ?_
        refine l_appendR tyE37 (OwnSl.full (g := gq) (n := 0) (vs := []) rfl (by decide)) (hW.perm (List.perm_append_singleton _ _).symm) (hP.past hW.below) (N := l.length) (Nat.zero_add _) rfl rfl rfl rfl rfl (bl_len l) hnil (bl_one _) (by unfold maxLen; omega) (by omega) ?_
        intro a1 c1 Bs1 W hO1 hW
        rw [List.nil_append] at hO1
        obtain ⟨go, cur, rfl, rfl, hle, hcl, ht⟩ := hO1.row (by omega)
        rw [Nat.mul_one] at ht hcl
        replace hW := hW.perm List.perm_append_comm
        refine l_val (r_assign (v := .slice _ _ _) rfl rfl) rfl rfl ?_
        refine l_end ?_
        refine n_then ?_
        refine c_seq ?_
        refine c_seq ?_
        refine c_reg ?_
        refine l_val (r_assign (v := .int _ _) rfl rfl) rfl rfl ?_
        refine l_end ?_
        refine n_then ?_
        refine c_block ?_
        refine c_loop (fun (i0 : Nat) (j : Nat → Value) => [keyV k, .slice a l.length c, .int .i64 (q : Int), keyV p, .pointer (some ⟨g1, 0, none⟩), j 5, j 6, .pointer (some ⟨g2, 0, none⟩), .bool false, .bool true, .slice (some ⟨go, 0, none⟩) l.length c1, .int .i64 (i0 : Int), j 12, j 13, j 14, j 15, .bool true, .slice a l.length c, j 18, .bool false, .bool false, .int .i64 (q : Int), .bool false, .bool false, .bool false, .int .i64 (q : Int), .slice a l.length c, j 27, j 28, j 29, .bool false, .bool false, j 32, j 33, .slice a l.length c, .slice (some ⟨go, 0, none⟩) l.length c1, j 36, j 37, j 38, j 39, j 40, j 41, j 42, j 43, j 44, j 45, j 46, j 47, j 48, j 49, j 50, j 51, j 52, j 53, j 54, j 55, j 56, j 57, j 58, j 59, j 60, j 61, j 62, j 63, j 64, j 65, j 66, j 67, j 68, j 69, j 70, j 71, j 72, j 73, j 74, j 75, j 76, j 77, j 78, j 79, j 80, j 81, j 82, j 83, j 84, j 85, j 86, j 87, j 88, j 89]) (fun (i0 : Nat) => [⟨go, pst cur q p i0, 5⟩, ⟨g2, kc p, 23⟩, ⟨g1, kc k, 23⟩]) (fun (i0 : Nat) => i0 ≤ 16) (fun (i0 : Nat) => 16 - i0) 0 (by kernel_rfl) hW (Nat.zero_le _) ?_
        intro i0 j W hx hW
        have hj : i0 ≤ 16 := hx
        refine c_seq ?_
        refine c_seq ?_
        refine c_reg ?_
        refine l_val (r_move (v := .int _ _) rfl rfl) rfl rfl ?_
        refine l_val (r_lssN (n := 16) rfl rfl rfl rfl) rfl rfl ?_
        refine l_split ?_ ?_
        · intro hc4
          replace hc4 := of_decide_eq_true hc4
          refine l_val (r_move (v := .bool _) rfl rfl) rfl rfl ?_
          refine l_valG (r_move (v := .int _ _) rfl rfl) (by kernel_rfl) rfl ?_
          refine l_valG (r_mulN (m := 16) (n := q) rfl rfl rfl (by omega)) (by kernel_rfl) rfl ?_
          refine l_valG (r_move (v := .int _ _) rfl rfl) (by kernel_rfl) rfl ?_
          refine l_valG (r_addN (m := 16 * q) (n := i0) rfl rfl rfl (by omega)) (by kernel_rfl) rfl ?_
          refine l_valG (r_move (v := .slice _ _ _) rfl rfl) (by kernel_rfl) rfl ?_
          refine l_valG (r_lenSlice Try.underlying37 rfl rfl) (by kernel_rfl) rfl ?_
          refine l_valG (r_lssN rfl rfl rfl rfl) (by kernel_rfl) rfl ?_
          refine l_split ?_ ?_
          · intro hc5
            replace hc5 := of_decide_eq_true hc5
            refine l_val (r_pick (v := .bool _) rfl rfl rfl) rfl rfl ?_
            refine l_end ?_
            refine n_then ?_
            refine c_true rfl ?_
            refine c_skip ?_
            refine n_then ?_
            refine c_seq ?_
            refine c_block ?_
            refine c_reg ?_
            refine l_val (r_move (v := .slice _ _ _) rfl rfl) rfl rfl ?_
            refine l_val (r_move (v := .int _ _) rfl rfl) rfl rfl ?_
            refine l_val (r_mulN (m := 16) (n := q) rfl rfl rfl (by omega)) rfl rfl ?_
            refine l_val (r_move (v := .int _ _) rfl rfl) rfl rfl ?_
            refine l_val (r_addN (m := 16 * q) (n := i0) rfl rfl rfl (by omega)) rfl rfl ?_
            refine l_val (r_move (v := .int _ _) rfl rfl) rfl rfl ?_
            refine l_val (r_indexAddrArr1 Try.underlying23 tyC5.size rfl rfl rfl (by omega)) rfl rfl ?_
            refine l_loadC hW 1 tyC5 rfl rfl rfl rfl rfl (kc_get p i0 (by omega)) ?_
            refine l_val (r_indexAddrSl1 (n := 16 * q + i0) Try.underlying37 tyC5.size rfl rfl rfl (by omega)) rfl rfl ?_
            refine l_storeC hW 0 tyC5 (v := .int _ _) rfl rfl rfl rfl rfl rfl (by rw [pst_len]; omega) rfl ?_
            intro W hW
            refine l_end ?_
            refine n_block ?_
            refine n_then ?_
            refine c_reg ?_
            refine l_val (r_move (v := .int _ _) rfl rfl) rfl rfl ?_
            refine l_val (r_addN (n := 1) rfl rfl rfl (by omega)) rfl rfl ?_
            refine l_val (r_assign (v := .int _ _) rfl rfl) rfl rfl ?_
            refine l_end ?_
            refine n_then ?_
            exact loop_next (i0 + 1) (by kernel_rfl) hW (by omega) (by omega)
          · intro hc5
            replace hc5 := of_decide_eq_false hc5
            have he : i0 = 16 ∨ l.length ≤ 16 * q + i0 := .inr (by omega)
            have hpt := pst_take (p := p) ht (by omega) hj he
            refine l_val (r_pick (v := .bool _) rfl rfl rfl) rfl rfl ?_
            refine l_end ?_
            refine n_then ?_
            refine c_false rfl ?_
            refine c_exit ?_
            refine x_then ?_
            refine x_then ?_
            refine x_hit ?_
            refine n_then ?_
            refine c_seq ?_
            refine c_reg ?_
            refine l_loadA hW 2 tyA23 rfl rfl rfl rfl rfl (by first | rfl | exact kc_len _ | exact kcf_len _ | (simp; done)) ?_
            refine l_val (r_move (v := .slice _ _ _) rfl rfl) rfl rfl ?_
            refine l_callR hW (g_MacS k a c l hcap (by omega)) en33 (hP.past hW.below) rfl rfl rfl rfl ?_
            intro W hW
            refine l_val (r_move (v := .tuple _) rfl rfl) rfl rfl ?_
            refine l_val (r_extract (v := .agg _) rfl rfl rfl) rfl rfl ?_
            refine l_val (r_extract (v := .int _ _) rfl rfl rfl) rfl rfl ?_
            refine l_alloc hW tyZ23 rfl rfl rfl ?_
            intro g3 W hW
            refine l_storeA hW 0 tyA23 rfl rfl rfl rfl rfl rfl (by first | rfl | exact kc_len _ | exact kcf_len _ | (simp; done)) (by first | rfl | exact kc_len _ | exact kcf_len _ | (simp; done)) (by first | exact kc_one _ | exact kcf_one _ | (simp [Value.oneCell']; done)) ?_
            intro W hW
            refine l_val (r_assign (v := .int _ _) rfl rfl) rfl rfl ?_
            refine l_end ?_
            refine n_then ?_
            refine c_seq ?_
            refine c_reg ?_
            refine l_loadA hW 3 tyA23 rfl rfl rfl rfl rfl (by first | rfl | exact kc_len _ | exact kcf_len _ | (simp; done)) ?_
            refine l_val (r_move (v := .slice _ _ _) rfl rfl) rfl rfl ?_
            refine l_callR hW (g_MacN k (some ⟨go, 0, none⟩) l.length c1 (repl l q p) (repl_len l q p) hle (by omega)) en33 (hW.rd 1 rfl 0 l.length (by rw [List.drop_zero]; exact hpt)) rfl rfl rfl rfl ?_
            intro W hW
            refine l_val (r_move (v := .tuple _) rfl rfl) rfl rfl ?_
            refine l_val (r_extract (v := .agg _) rfl rfl rfl) rfl rfl ?_
            refine l_val (r_extract (v := .int _ _) rfl rfl rfl) rfl rfl ?_
            refine l_alloc hW tyZ23 rfl rfl rfl ?_
            intro g4 W hW
            refine l_storeA hW 0 tyA23 rfl rfl rfl rfl rfl rfl (by first | rfl | exact kc_len _ | exact kcf_len _ | (simp; done)) (by first | rfl | exact kc_len _ | exact kcf_len _ | (simp; done)) (by first | exact kc_one _ | exact kcf_one _ | (simp [Value.oneCell']; done)) ?_
            intro W hW
            refine l_val (r_assign (v := .int _ _) rfl rfl) rfl rfl ?_
            refine l_end ?_
            refine n_then ?_
            refine c_seq ?_
            refine c_regY hW [] [.q, .q, .q, .q, .q, .q, .q, .q, .q, .q, .q, .q, .q, .q, .q, .q, .q, .q, .q, .q, .q] (by kernel_rfl) (by kernel_rfl) ?_
            refine y_val (r_move (v := .bool _) rfl rfl) rfl rfl ?_
            refine y_val (r_move (v := .bool _) rfl rfl) rfl rfl ?_
            refine y_val (r_move (v := .int _ _) rfl rfl) (by kernel_rfl) rfl ?_
            refine y_val (r_eqlN (b := true) (m := 0) (n := 0) rfl rfl rfl rfl) (by kernel_rfl) rfl ?_
            refine y_val (r_pick (v := .bool _) rfl rfl rfl) rfl rfl ?_
            refine y_val (r_move (v := .bool _) rfl rfl) rfl rfl ?_
            refine y_val (r_move (v := .int _ _) rfl rfl) (by kernel_rfl) rfl ?_
            refine y_val (r_eqlN (b := true) (m := 0) (n := 0) rfl rfl rfl rfl) (by kernel_rfl) rfl ?_
            refine y_val (r_pick (v := .bool _) rfl rfl rfl) rfl rfl ?_
            refine y_val (r_move (v := .bool _) rfl rfl) rfl rfl ?_
            refine y_loadA 1 tyA23 (by kernel_rfl) rfl rfl rfl rfl (by first | rfl | exact kc_len _ | exact kcf_len _ | (simp; done)) (by decide) ?_
            refine y_loadA 0 tyA23 (by kernel_rfl) rfl rfl rfl rfl (by first | rfl | exact kc_len _ | exact kcf_len _ | (simp; done)) (by decide) ?_
            refine y_val (r_eqlK tyK23 _ _ rfl rfl rfl rfl) (by kernel_rfl) rfl ?_
            refine y_val (r_move (v := .slice _ _ _) rfl rfl) (by kernel_rfl) rfl ?_
            refine y_toStr Try.underlying37 Try.underlying5 Try.underlying9 (fun L2 w hs hC => hP.past hC.below) rfl (fun h => (hnil h).1) (by kernel_rfl) rfl rfl rfl ?_
            refine y_val (r_move (v := .slice _ _ _) rfl rfl) (by kernel_rfl) rfl ?_
            refine y_toStr Try.underlying37 Try.underlying5 Try.underlying9 (l := repl l q p) (fun L2 w hs hC => hs.at hC 2 (by decide) rfl 0 l.length (by rw [List.drop_zero]; exact hpt)) (repl_len l q p) (fun h => by cases h) (by kernel_rfl) rfl rfl rfl ?_
            refine y_val (r_strEql rfl rfl rfl rfl) (by kernel_rfl) rfl ?_
            refine y_val (r_eqlBool (c := true) Try.underlying4 rfl rfl rfl (by simp [mac_repl k l p hq])) (by kernel_rfl) rfl ?_
            refine y_val (r_pick (v := .bool _) rfl rfl rfl) rfl rfl ?_
            refine y_val (r_assign (v := .bool _) rfl rfl) rfl rfl ?_
            refine y_end ?_
            intro W hW
            refine n_then ?_
            refine c_ret ?_
            refine ret_tmp (v := .bool true) rfl ?_ ⟨rfl, hW.below⟩
            rfl
        · intro hc4
          replace hc4 := of_decide_eq_false hc4
          have he : i0 = 16 ∨ l.length ≤ 16 * q + i0 := .inl (by omega)
          have hpt := pst_take (p := p) ht (by omega) hj he
          refine l_val (r_move (v := .bool _) rfl rfl) rfl rfl ?_
          refine l_not (by kernel_rfl) rfl ?_
          refine l_not (by kernel_rfl) rfl ?_
          refine l_not (by kernel_rfl) rfl ?_
          refine l_not (by kernel_rfl) rfl ?_
          refine l_not (by kernel_rfl) rfl ?_
          refine l_not (by kernel_rfl) rfl ?_
          refine l_not (by kernel_rfl) rfl ?_
          refine l_val (r_pick (v := .bool _) rfl rfl rfl) rfl rfl ?_
          refine l_end ?_
          refine n_then ?_
          refine c_false rfl ?_
          refine c_exit ?_
          refine x_then ?_
          refine x_then ?_
          refine x_hit ?_
          refine n_then ?_
          refine c_seq ?_
          refine c_reg ?_
          refine l_loadA hW 2 tyA23 rfl rfl rfl rfl rfl (by first | rfl | exact kc_len _ | exact kcf_len _ | (simp; done)) ?_
          refine l_val (r_move (v := .slice _ _ _) rfl rfl) rfl rfl ?_
          refine l_callR hW (g_MacS k a c l hcap (by omega)) en33 (hP.past hW.below) rfl rfl rfl rfl ?_
          intro W hW
          refine l_val (r_move (v := .tuple _) rfl rfl) rfl rfl ?_
          refine l_val (r_extract (v := .agg _) rfl rfl rfl) rfl rfl ?_
          refine l_val (r_extract (v := .int _ _) rfl rfl rfl) rfl rfl ?_
          refine l_alloc hW tyZ23 rfl rfl rfl ?_
          intro g5 W hW
          refine l_storeA hW 0 tyA23 rfl rfl rfl rfl rfl rfl (by first | rfl | exact kc_len _ | exact kcf_len _ | (simp; done)) (by first | rfl | exact kc_len _ | exact kcf_len _ | (simp; done)) (by first | exact kc_one _ | exact kcf_one _ | (simp [Value.oneCell']; done)) ?_
          intro W hW
          refine l_val (r_assign (v := .int _ _) rfl rfl) rfl rfl ?_
          refine l_end ?_
          refine n_then ?_
          refine c_seq ?_
          refine c_reg ?_
          refine l_loadA hW 3 tyA23 rfl rfl rfl rfl rfl (by first | rfl | exact kc_len _ | exact kcf_len _ | (simp; done)) ?_
          refine l_val (r_move (v := .slice _ _ _) rfl rfl) rfl rfl ?_
          refine l_callR hW (g_MacN k (some ⟨go, 0, none⟩) l.length c1 (repl l q p) (repl_len l q p) hle (by omega)) en33 (hW.rd 1 rfl 0 l.length (by rw [List.drop_zero]; exact hpt)) rfl rfl rfl rfl ?_
          intro W hW
          refine l_val (r_move (v := .tuple _) rfl rfl) rfl rfl ?_
          refine l_val (r_extract (v := .agg _) rfl rfl rfl) rfl rfl ?_
          refine l_val (r_extract (v := .int _ _) rfl rfl rfl) rfl rfl ?_
          refine l_alloc hW tyZ23 rfl rfl rfl ?_
          intro g6 W hW
          refine l_storeA hW 0 tyA23 rfl rfl rfl rfl rfl rfl (by first | rfl | exact kc_len _ | exact kcf_len _ | (simp; done)) (by first | rfl | exact kc_len _ | exact kcf_len _ | (simp; done)) (by first | exact kc_one _ | exact kcf_one _ | (simp [Value.oneCell']; done)) ?_
          intro W hW
          refine l_val (r_assign (v := .int _ _) rfl rfl) rfl rfl ?_
          refine l_end ?_
          refine n_then ?_
          refine c_seq ?_
          refine c_regY hW [] [.q, .q, .q, .q, .q, .q, .q, .q, .q, .q, .q, .q, .q, .q, .q, .q, .q, .q, .q, .q, .q] (by kernel_rfl) (by kernel_rfl) ?_
          refine y_val (r_move (v := .bool _) rfl rfl) rfl rfl ?_
          refine y_val (r_move (v := .bool _) rfl rfl) rfl rfl ?_
          refine y_val (r_move (v := .int _ _) rfl rfl) (by kernel_rfl) rfl ?_
          refine y_val (r_eqlN (b := true) (m := 0) (n := 0) rfl rfl rfl rfl) (by kernel_rfl) rfl ?_
          refine y_val (r_pick (v := .bool _) rfl rfl rfl) rfl rfl ?_
          refine y_val (r_move (v := .bool _) rfl rfl) rfl rfl ?_
          refine y_val (r_move (v := .int _ _) rfl rfl) (by kernel_rfl) rfl ?_
          refine y_val (r_eqlN (b := true) (m := 0) (n := 0) rfl rfl rfl rfl) (by kernel_rfl) rfl ?_
          refine y_val (r_pick (v := .bool _) rfl rfl rfl) rfl rfl ?_
          refine y_val (r_move (v := .bool _) rfl rfl) rfl rfl ?_
          refine y_loadA 1 tyA23 (by kernel_rfl) rfl rfl rfl rfl (by first | rfl | exact kc_len _ | exact kcf_len _ | (simp; done)) (by decide) ?_
          refine y_loadA 0 tyA23 (by kernel_rfl) rfl rfl rfl rfl (by first | rfl | exact kc_len _ | exact kcf_len _ | (simp; done)) (by decide) ?_
          refine y_val (r_eqlK tyK23 _ _ rfl rfl rfl rfl) (by kernel_rfl) rfl ?_
          refine y_val (r_move (v := .slice _ _ _) rfl rfl) (by kernel_rfl) rfl ?_
          refine y_toStr Try.underlying37 Try.underlying5 Try.underlying9 (fun L2 w hs hC => hP.past hC.below) rfl (fun h => (hnil h).1) (by kernel_rfl) rfl rfl rfl ?_
          refine y_val (r_move (v := .slice _ _ _) rfl rfl) (by kernel_rfl) rfl ?_
          refine y_toStr Try.underlying37 Try.underlying5 Try.underlying9 (l := repl l q p) (fun L2 w hs hC => hs.at hC 2 (by decide) rfl 0 l.length (by rw [List.drop_zero]; exact hpt)) (repl_len l q p) (fun h => by cases h) (by kernel_rfl) rfl rfl rfl ?_
          refine y_val (r_strEql rfl rfl rfl rfl) (by kernel_rfl) rfl ?_
          refine y_val (r_eqlBool (c := true) Try.underlying4 rfl rfl rfl (by simp [mac_repl k l p hq])) (by kernel_rfl) rfl ?_
          refine y_val (r_pick (v := .bool _) rfl rfl rfl) rfl rfl ?_
          refine y_val (r_assign (v := .bool _) rfl rfl) rfl rfl ?_
          refine y_end ?_
          intro W hW
          refine n_then ?_
          refine c_ret ?_
          refine ret_tmp (v := .bool true) rfl ?_ ⟨rfl, hW.below⟩
          rfl

end Go.Proofs.Ytlabfinhdidmaaa
