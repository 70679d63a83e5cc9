/- Law of streams that are applied twice. -/
import Derived.Test.YtlabfinhdidmaaaFacts
import Derived.Test.YtlabfinhdidmaaaVals
import Derived.Test.YtlabfinhdidmaaaC21
import Derived.Test.YtlabfinhdidmaaaVals6
namespace Go.Proofs.Ytlabfinhdidmaaa
open Go.RowKit Pl

set_option maxRecDepth 10000 in
/-- headend/headendlaw02.CipherTwice -/
theorem g_CipherTwiceB (k : Kw) (m : W64) (a : Option Addr) (c : Nat) (l : Bs8) (z : Int) (hcap : l.length ≤ c) (_ : a = none → l.length = 0 ∧ c = 0) (hb : 16384 < l.length) : GivesR Try.prog 15 [keyV k, U64 m, .slice a l.length c, .int .i64 z].toArray (fun w => Rd w a (bl l)) (.bool true) := by
  refine givesR_of Try.func15 rfl (bs := [keyV k, U64 m, .slice a l.length c, .int .i64 z, undef, undef, undef, undef, undef, undef, undef, undef, undef, undef, undef, undef, undef, undef, undef, undef, undef, undef, undef, undef, undef, undef, undef, undef, undef, undef, undef, undef, undef, undef, undef, undef, undef, undef, undef, undef, undef, undef, undef, undef, undef, undef, undef, undef, undef, undef, undef, undef, undef, undef, undef, undef, undef, undef, undef, undef, undef, undef, undef, undef, undef, undef, undef, undef, undef, undef, undef, undef, undef, undef, undef, undef, undef, undef, undef, undef, undef, undef, undef, undef, undef, undef, undef, undef, undef, undef, undef]) rfl ?_
  intro w hP hW
  refine c_seq ?_
  refine c_reg ?_
  refine l_box hW rfl rfl rfl rfl ?_
  intro g1 W hW
  refine l_val (r_assign (v := .bool _) rfl rfl) rfl rfl ?_
  refine l_end ?_
  refine n_then ?_
  refine c_seq ?_
  refine c_reg ?_
  refine l_call hW (g_alive) en37 rfl rfl rfl rfl ?_
  intro W hW
  refine l_val (r_assign (v := .bool _) rfl rfl) rfl rfl ?_
  refine l_end ?_
  refine n_then ?_
  refine c_seq ?_
  refine c_reg ?_
  refine l_loadA hW 0 tyA23 rfl rfl rfl rfl rfl (by first | rfl | exact kc_len _ | exact kcf_len _ | (simp; done)) ?_
  refine l_val (r_move (v := .int _ _) rfl rfl) rfl rfl ?_
  refine l_val (r_move (v := .slice _ _ _) rfl rfl) rfl rfl ?_
  refine l_callX hW (x_StreamB k m a c l hcap hb) en31 (hP.past hW.below) rfl rfl rfl rfl ?_
  rintro _ _ W ⟨rfl, rfl⟩ hW
  rw [List.append_nil] at hW
  refine l_val (r_move (v := .tuple _) rfl rfl) rfl rfl ?_
  refine l_val (r_extract (v := .slice _ _ _) rfl rfl rfl) rfl rfl ?_
  refine l_val (r_extract (v := .int _ _) rfl rfl rfl) rfl rfl ?_
  refine l_val (r_assign (v := .slice _ _ _) rfl rfl) rfl rfl ?_
  refine l_val (r_assign (v := .int _ _) rfl rfl) rfl rfl ?_
  refine l_end ?_
  refine n_then ?_
  refine c_seq ?_
  refine c_seq ?_
  refine c_reg ?_
  refine l_val (r_move (v := .slice _ _ _) rfl rfl) rfl rfl ?_
  refine l_val (r_lenSlice Try.underlying37 rfl rfl) rfl rfl ?_
  refine l_val (r_gtrN (b := true) (n := 16384) rfl rfl rfl (decide_eq_true (by omega))) rfl rfl ?_
  refine l_end ?_
  refine n_then ?_
  refine c_true rfl ?_
  refine c_seq ?_
  refine c_reg ?_
  refine l_val (r_move (v := .bool _) rfl rfl) rfl rfl ?_
  refine l_val (r_move (v := .bool _) rfl rfl) rfl rfl ?_
  refine l_valG (r_move (v := .int _ _) rfl rfl) (by kernel_rfl) rfl ?_
  refine l_valG (r_eqlN (b := true) (m := 4) (n := 4) rfl rfl rfl rfl) (by kernel_rfl) rfl ?_
  refine l_val (r_pick (v := .bool _) rfl rfl rfl) rfl rfl ?_
  refine l_val (r_assign (v := .bool _) rfl rfl) rfl rfl ?_
  refine l_end ?_
  refine n_then ?_
  refine c_ret ?_
  refine r_then ?_
  refine ret_tmp (v := .bool true) rfl ?_ ⟨rfl, hW.below⟩
  rfl

set_option maxRecDepth 10000 in
/-- headend/headendlaw02.CipherTwice -/
theorem g_CipherTwiceS (k : Kw) (m : W64) (a : Option Addr) (c : Nat) (l : Bs8) (z : Int) (hcap : l.length ≤ c) (hnil : a = none → l.length = 0 ∧ c = 0) (hb : ¬ 16384 < l.length) : GivesR Try.prog 15 [keyV k, U64 m, .slice a l.length c, .int .i64 z].toArray (fun w => Rd w a (bl l)) (.bool true) := by
  refine givesR_of Try.func15 rfl (bs := [keyV k, U64 m, .slice a l.length c, .int .i64 z, undef, undef, undef, undef, undef, undef, undef, undef, undef, undef, undef, undef, undef, undef, undef, undef, undef, undef, undef, undef, undef, undef, undef, undef, undef, undef, undef, undef, undef, undef, undef, undef, undef, undef, undef, undef, undef, undef, undef, undef, undef, undef, undef, undef, undef, undef, undef, undef, undef, undef, undef, undef, undef, undef, undef, undef, undef, undef, undef, undef, undef, undef, undef, undef, undef, undef, undef, undef, undef, undef, undef, undef, undef, undef, undef, undef, undef, undef, undef, undef, undef, undef, undef, undef, undef, undef, undef]) rfl ?_
  intro w hP hW
  refine c_seq ?_
  refine c_reg ?_
  refine l_box hW rfl rfl rfl rfl ?_
  intro g1 W hW
  refine l_val (r_assign (v := .bool _) rfl rfl) rfl rfl ?_
  refine l_end ?_
  refine n_then ?_
  refine c_seq ?_
  refine c_reg ?_
  refine l_call hW (g_alive) en37 rfl rfl rfl rfl ?_
  intro W hW
  refine l_val (r_assign (v := .bool _) rfl rfl) rfl rfl ?_
  refine l_end ?_
  refine n_then ?_
  refine c_seq ?_
  refine c_reg ?_
  refine l_loadA hW 0 tyA23 rfl rfl rfl rfl rfl (by first | rfl | exact kc_len _ | exact kcf_len _ | (simp; done)) ?_
  refine l_val (r_move (v := .int _ _) rfl rfl) rfl rfl ?_
  refine l_val (r_move (v := .slice _ _ _) rfl rfl) rfl rfl ?_
  refine l_callX hW (x_StreamN k m a l.length c l rfl hcap hb) en31 (hP.past hW.below) rfl rfl rfl rfl ?_
  rintro _ _ W ⟨go, rfl, rfl⟩ hW
  replace hW := hW.perm List.perm_append_comm
  refine l_val (r_move (v := .tuple _) rfl rfl) rfl rfl ?_
  refine l_val (r_extract (v := .slice _ _ _) rfl rfl rfl) rfl rfl ?_
  refine l_val (r_extract (v := .int _ _) rfl rfl rfl) rfl rfl ?_
  refine l_val (r_assign (v := .slice _ _ _) rfl rfl) rfl rfl ?_
  refine l_val (r_assign (v := .int _ _) rfl rfl) rfl rfl ?_
  refine l_end ?_
  refine n_then ?_
  refine c_seq ?_
  refine c_seq ?_
  refine c_reg ?_
  refine l_val (r_move (v := .slice _ _ _) rfl rfl) rfl rfl ?_
  refine l_val (r_lenSlice Try.underlying37 rfl rfl) rfl rfl ?_
  refine l_val (r_gtrN (b := false) (n := 16384) rfl rfl rfl (decide_eq_false (by omega))) rfl rfl ?_
  refine l_end ?_
  refine n_then ?_
  refine c_false rfl ?_
  refine c_skip ?_
  refine n_then ?_
  refine c_seq ?_
  refine c_reg ?_
  refine l_loadA hW 1 tyA23 rfl rfl rfl rfl rfl (by first | rfl | exact kc_len _ | exact kcf_len _ | (simp; done)) ?_
  refine l_val (r_move (v := .int _ _) rfl rfl) rfl rfl ?_
  refine l_val (r_move (v := .slice _ _ _) rfl rfl) rfl rfl ?_
  refine l_callX hW (x_StreamN k m (some ⟨go, 0, none⟩) l.length l.length (stream k m l) (stream_len k m l) (Nat.le_refl _) hb) en31 (hW.rd 0 rfl 0 l.length (by rw [List.drop_zero, List.take_of_length_le (by rw [bl_len, stream_len]; exact Nat.le_refl _)])) rfl rfl rfl rfl ?_
  rintro _ _ W ⟨go2, rfl, rfl⟩ hW
  replace hW := hW.perm List.perm_append_comm
  refine l_val (r_move (v := .tuple _) rfl rfl) rfl rfl ?_
  refine l_val (r_extract (v := .slice _ _ _) rfl rfl rfl) rfl rfl ?_
  refine l_val (r_extract (v := .int _ _) rfl rfl rfl) rfl rfl ?_
  refine l_val (r_assign (v := .slice _ _ _) rfl rfl) rfl rfl ?_
  refine l_val (r_assign (v := .int _ _) rfl rfl) rfl rfl ?_
  refine l_end ?_
  refine n_then ?_
  refine c_seq ?_
  refine c_seq ?_
  refine c_reg ?_
  refine l_val (r_move (v := .int _ _) rfl rfl) rfl rfl ?_
  refine l_val (r_neqN (b := false) (m := 0) (n := 0) rfl rfl rfl rfl) rfl rfl ?_
  refine l_val (r_move (v := .bool _) rfl rfl) rfl rfl ?_
  refine l_valG (r_move (v := .int _ _) rfl rfl) (by kernel_rfl) rfl ?_
  refine l_valG (r_neqN (b := false) (m := 0) (n := 0) rfl rfl rfl rfl) (by kernel_rfl) rfl ?_
  refine l_val (r_pick (v := .bool _) rfl rfl rfl) rfl rfl ?_
  refine l_val (r_move (v := .bool _) rfl rfl) rfl rfl ?_
  refine l_valG (r_move (v := .slice _ _ _) rfl rfl) (by kernel_rfl) rfl ?_
  refine l_valG (r_lenSlice Try.underlying37 rfl rfl) (by kernel_rfl) rfl ?_
  refine l_valG (r_move (v := .slice _ _ _) rfl rfl) (by kernel_rfl) rfl ?_
  refine l_valG (r_lenSlice Try.underlying37 rfl rfl) (by kernel_rfl) rfl ?_
  refine l_valG (r_neqN (b := false) (m := l.length) (n := l.length) rfl rfl rfl (by simp)) (by kernel_rfl) rfl ?_
  refine l_val (r_pick (v := .bool _) rfl rfl rfl) rfl rfl ?_
  refine l_val (r_move (v := .bool _) rfl rfl) rfl rfl ?_
  refine l_valG (r_move (v := .slice _ _ _) rfl rfl) (by kernel_rfl) rfl ?_
  refine l_toStr Try.underlying37 Try.underlying5 Try.underlying9 (hW.rd 0 rfl 0 l.length (by rw [List.drop_zero, List.take_of_length_le (by rw [bl_len, stream_len, stream_len]; exact Nat.le_refl _)])) (by rw [stream_len, stream_len]) (fun h => by cases h) (by kernel_rfl) rfl rfl rfl ?_
  refine l_valG (r_move (v := .slice _ _ _) rfl rfl) (by kernel_rfl) rfl ?_
  refine l_toStr Try.underlying37 Try.underlying5 Try.underlying9 (hP.past hW.below) rfl (fun h => (hnil h).1) (by kernel_rfl) rfl rfl rfl ?_
  refine l_valG (r_strNeq (c := false) rfl rfl rfl (by simp [stream_twice])) (by kernel_rfl) rfl ?_
  refine l_val (r_pick (v := .bool _) rfl rfl rfl) rfl rfl ?_
  refine l_end ?_
  refine n_then ?_
  refine c_false rfl ?_
  refine c_skip ?_
  refine n_then ?_
  refine c_seq ?_
  refine c_seq ?_
  refine c_reg ?_
  refine l_val (r_move (v := .int _ _) rfl rfl) rfl rfl ?_
  refine l_val (r_lss (m := z) (n := 0) rfl rfl rfl rfl) rfl rfl ?_
  refine l_split ?_ ?_
  · intro hc1
    replace hc1 := of_decide_eq_true hc1
    refine l_val (r_move (v := .bool _) rfl rfl) rfl rfl ?_
    refine l_not (by kernel_rfl) rfl ?_
    refine l_not (by kernel_rfl) rfl ?_
    refine l_not (by kernel_rfl) rfl ?_
    refine l_not (by kernel_rfl) rfl ?_
    refine l_val (r_pick (v := .bool _) rfl rfl rfl) rfl rfl ?_
    refine l_end ?_
    refine n_then ?_
    refine c_true rfl ?_
    refine c_seq ?_
    refine c_reg ?_
    refine l_val (r_move (v := .bool _) rfl rfl) rfl rfl ?_
    refine l_val (r_assign (v := .bool _) rfl rfl) rfl rfl ?_
    refine l_end ?_
    refine n_then ?_
    refine c_ret ?_
    refine r_then ?_
    refine ret_tmp (v := .bool true) rfl ?_ ⟨rfl, hW.below⟩
    rfl
  · intro hc1
    replace hc1 := of_decide_eq_false hc1
    refine l_val (r_move (v := .bool _) rfl rfl) rfl rfl ?_
    refine l_valG (r_move (v := .int _ _) rfl rfl) (by kernel_rfl) rfl ?_
    refine l_valG (r_move (v := .slice _ _ _) rfl rfl) (by kernel_rfl) rfl ?_
    refine l_valG (r_lenSlice Try.underlying37 rfl rfl) (by kernel_rfl) rfl ?_
    refine l_valG (r_gtr (m := z) (n := (l.length : Int)) rfl rfl rfl rfl) (by kernel_rfl) rfl ?_
    refine l_split ?_ ?_
    · intro hc2
      replace hc2 := of_decide_eq_true hc2
      refine l_val (r_pick (v := .bool _) rfl rfl rfl) rfl rfl ?_
      refine l_end ?_
      refine n_then ?_
      refine c_true rfl ?_
      refine c_seq ?_
      refine c_reg ?_
      refine l_val (r_move (v := .bool _) rfl rfl) rfl rfl ?_
      refine l_val (r_assign (v := .bool _) rfl rfl) rfl rfl ?_
      refine l_end ?_
      refine n_then ?_
      refine c_ret ?_
      refine r_then ?_
      refine ret_tmp (v := .bool true) rfl ?_ ⟨rfl, hW.below⟩
      rfl
    · intro hc2
      replace hc2 := of_decide_eq_false hc2
      obtain ⟨l1, rfl, hl1⟩ : ∃ l1 : Bs8, z = (l1.length : Int) ∧ l1 = l.take l1.length := ⟨l.take z.toNat, by rw [List.length_take]; omega, first_len l _⟩
      have hle : l1.length ≤ l.length := by omega
      have hr1 : Rd w a (bl l1) := by rw [hl1]; exact rd_take hP _
      refine l_val (r_pick (v := .bool _) rfl rfl rfl) rfl rfl ?_
      refine l_end ?_
      refine n_then ?_
      refine c_false rfl ?_
      refine c_skip ?_
      refine n_then ?_
      refine c_seq ?_
      refine c_regC hW [] [.q, .q, .q, .q, .q, .mk 0, .tail, .tail, .tail, .tail, .tail] [⟨74, fun _ => StrX k m l1 l1.length⟩] [[]] [5] [0, 0, 0, 0, 12, 31, 63, 127, 127, 255, 1023] [] [.q, .q, .q, .q, .q, .q, .q, .q, .q, .q, .q] (by kernel_rfl) (by kernel_rfl) rfl (by kernel_rfl) ?_
      refine y_loadA 2 tyA23 rfl rfl rfl rfl rfl (by first | rfl | exact kc_len _ | exact kcf_len _ | (simp; done)) (by decide) ?_
      refine y_val (r_move (v := .int _ _) rfl rfl) rfl rfl ?_
      refine y_val (r_move (v := .slice _ _ _) rfl rfl) rfl rfl ?_
      refine y_val (r_move (v := .int _ _) rfl rfl) rfl rfl ?_
      refine y_val (r_sliceTo (h := l1.length) Try.underlying37 tyC5.size rfl rfl rfl (by omega) (fun h => (hnil h).2)) rfl rfl ?_
      refine y_callX 0 (x_StreamN k m a l1.length c l1 rfl (by omega) (by omega)) en31 rfl rfl (fun L2 w hs hC => hr1.past hC.below) rfl rfl ?_
      refine y_tail ?_
      refine y_made ?_
      rintro _ _ ⟨go3, rfl, rfl⟩
      refine y_val (r_move (v := .tuple _) rfl rfl) rfl rfl ?_
      refine y_val (r_extract (v := .slice _ _ _) rfl rfl rfl) rfl rfl ?_
      refine y_val (r_extract (v := .int _ _) rfl rfl rfl) rfl rfl ?_
      refine y_val (r_assign (v := .slice _ _ _) rfl rfl) rfl rfl ?_
      refine y_val (r_assign (v := .int _ _) rfl rfl) rfl rfl ?_
      refine y_end ?_
      intro W hW
      refine n_then ?_
      refine c_seq ?_
      refine c_regY hW [] [.q, .q, .q, .q, .q, .q, .q, .q, .q, .q, .q, .q, .q, .q, .q] [0, 1, 3, 7, 15, 31, 63, 127, 63, 63, 831, 1855, 4095, 8191, 16383] (by kernel_rfl) (by kernel_rfl) ?_
      refine y_val (r_move (v := .bool _) rfl rfl) rfl rfl ?_
      refine y_val (r_move (v := .bool _) rfl rfl) rfl rfl ?_
      refine y_val (r_move (v := .int _ _) rfl rfl) (by kernel_rfl) rfl ?_
      refine y_val (r_eqlN (b := true) (m := 0) (n := 0) rfl rfl rfl rfl) (by kernel_rfl) rfl ?_
      refine y_val (r_pick (v := .bool _) rfl rfl rfl) rfl rfl ?_
      refine y_val (r_move (v := .bool _) rfl rfl) rfl rfl ?_
      refine y_val (r_move (v := .slice _ _ _) rfl rfl) (by kernel_rfl) rfl ?_
      refine y_toStr Try.underlying37 Try.underlying5 Try.underlying9 (fun L2 w hs hC => hs.at hC 0 (by decide) rfl 0 l1.length (by rw [List.drop_zero, List.take_of_length_le (by rw [bl_len, stream_len]; exact Nat.le_refl _)])) (stream_len k m l1) (fun h => by cases h) (by kernel_rfl) rfl rfl rfl ?_
      refine y_val (r_move (v := .slice _ _ _) rfl rfl) (by kernel_rfl) rfl ?_
      refine y_val (r_move (v := .int _ _) rfl rfl) (by kernel_rfl) rfl ?_
      refine y_val (r_sliceSlTo (h := l1.length) Try.underlying37 tyC5.size rfl rfl rfl hle) (by kernel_rfl) rfl ?_
      refine y_toStr Try.underlying37 Try.underlying5 Try.underlying9 (l := (stream k m l).take l1.length) (fun L2 w hs hC => hs.at hC 2 (by decide) rfl 0 l1.length (by rw [List.drop_zero, bl_take])) (by rw [List.length_take, stream_len]; omega) (fun h => by cases h) (by kernel_rfl) rfl rfl rfl ?_
      refine y_val (r_strEql (c := true) rfl rfl rfl (by rw [← stream_take, ← hl1]; exact decide_eq_true rfl)) (by kernel_rfl) rfl ?_
      refine y_val (r_pick (v := .bool _) rfl rfl rfl) rfl rfl ?_
      refine y_val (r_assign (v := .bool _) rfl rfl) rfl rfl ?_
      refine y_end ?_
      intro W hW
      refine n_then ?_
      refine c_ret ?_
      refine ret_tmp (v := .bool true) rfl ?_ ⟨rfl, hW.below⟩
      rfl

end Go.Proofs.Ytlabfinhdidmaaa
