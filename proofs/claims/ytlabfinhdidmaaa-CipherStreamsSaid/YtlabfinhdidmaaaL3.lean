/- Law of streams. -/
import Derived.Test.YtlabfinhdidmaaaFacts
import Derived.Test.YtlabfinhdidmaaaVals
import Derived.Test.YtlabfinhdidmaaaC15
import Derived.Test.YtlabfinhdidmaaaVals3
namespace Go.Proofs.Ytlabfinhdidmaaa
open Go.RowKit Pl

set_option maxRecDepth 10000 in
/-- headend/headendlaw02.CipherStreams -/
theorem g_CipherStreamsB (k : Kw) (m : W64) (a : Option Addr) (c : Nat) (l : Bs8) (hcap : l.length ≤ c) (hnil : a = none → l.length = 0 ∧ c = 0) (hmax : l.length ≤ 140737488351232) (hb : 16384 < l.length) : GivesR Try.prog 6 [keyV k, U64 m, .slice a l.length c].toArray (fun w => Rd w a (bl l)) (.bool true) := by
  refine givesR_of Try.func6 rfl (bs := [keyV k, U64 m, .slice a l.length c, undef, undef, undef, undef, undef, undef, undef, undef, undef, undef, undef, undef, undef, undef, undef, undef, undef, undef, undef, undef, undef, undef, undef, undef, undef, undef, undef, undef, undef, undef, undef, undef, undef, undef, undef, undef, undef, undef, undef, undef, undef, undef, undef, undef, undef, undef, undef, undef, undef, undef, undef, undef, undef, undef]) rfl ?_
  intro w hP hW
  refine c_seq ?_
  refine c_reg ?_
  refine l_box hW rfl rfl rfl rfl ?_
  intro g1 W hW
  refine l_val (r_assign (v := .bool _) rfl rfl) rfl rfl ?_
  refine l_end ?_
  refine n_then ?_
  refine c_seq ?_
  refine c_reg ?_
  refine l_buildSliceF hW bsl37_0_ rfl rfl rfl rfl ?_
  intro gq W hW
  refine l_val (r_move (v := .slice _ _ _) rfl rfl) rfl rfl ?_
  refine l_appendR tyE37 (OwnSl.full (g := gq) (n := 0) (vs := []) rfl (by decide)) (hW.perm (List.perm_append_singleton _ _).symm) (hP.past hW.below) (N := l.length) (Nat.zero_add _) rfl rfl rfl rfl rfl (bl_len l) hnil (bl_one _) (by unfold maxLen; omega) (by omega) ?_
  intro a1 c1 Bs1 W hO1 hW
  rw [List.nil_append] at hO1
  refine l_val (r_assign (v := .slice _ _ _) rfl rfl) rfl rfl ?_
  refine l_end ?_
  refine n_then ?_
  refine c_seq ?_
  refine c_reg ?_
  refine l_loadA hW 0 tyA23 rfl rfl rfl rfl rfl (by first | rfl | exact kc_len _ | exact kcf_len _ | (simp; done)) ?_
  refine l_val (r_move (v := .int _ _) rfl rfl) rfl rfl ?_
  refine l_val (r_move (v := .slice _ _ _) rfl rfl) rfl rfl ?_
  refine l_callX hW (x_StreamB k m a1 c1 l hO1.le hb) en31 (hO1.rd hW) rfl rfl rfl rfl ?_
  rintro _ _ W ⟨rfl, rfl⟩ hW
  rw [List.append_nil] at hW
  refine l_val (r_move (v := .tuple _) rfl rfl) rfl rfl ?_
  refine l_val (r_extract (v := .slice _ _ _) rfl rfl rfl) rfl rfl ?_
  refine l_val (r_extract (v := .int _ _) rfl rfl rfl) rfl rfl ?_
  refine l_val (r_assign (v := .slice _ _ _) rfl rfl) rfl rfl ?_
  refine l_val (r_assign (v := .int _ _) rfl rfl) rfl rfl ?_
  refine l_end ?_
  refine n_then ?_
  refine c_seq ?_
  refine c_reg ?_
  refine l_loadA hW 0 tyA23 rfl rfl rfl rfl rfl (by first | rfl | exact kc_len _ | exact kcf_len _ | (simp; done)) ?_
  refine l_val (r_move (v := .int _ _) rfl rfl) rfl rfl ?_
  refine l_val (r_move (v := .slice _ _ _) rfl rfl) rfl rfl ?_
  refine l_callX hW (x_rStreamB k m a c l hcap hb) en32 (hP.past hW.below) rfl rfl rfl rfl ?_
  rintro _ _ W ⟨rfl, rfl⟩ hW
  rw [List.append_nil] at hW
  refine l_val (r_move (v := .tuple _) rfl rfl) rfl rfl ?_
  refine l_val (r_extract (v := .slice _ _ _) rfl rfl rfl) rfl rfl ?_
  refine l_val (r_extract (v := .int _ _) rfl rfl rfl) rfl rfl ?_
  refine l_val (r_assign (v := .slice _ _ _) rfl rfl) rfl rfl ?_
  refine l_val (r_assign (v := .int _ _) rfl rfl) rfl rfl ?_
  refine l_end ?_
  refine n_then ?_
  refine c_seq ?_
  refine c_seq ?_
  refine c_reg ?_
  refine l_val (r_move (v := .slice _ _ _) rfl rfl) rfl rfl ?_
  refine l_toStr (l := []) Try.underlying37 Try.underlying5 Try.underlying9 (Rd.nil _ _ : Rd _ _ (bl [])) rfl (fun _ => rfl) rfl rfl rfl rfl ?_
  refine l_val (r_move (v := .slice _ _ _) rfl rfl) rfl rfl ?_
  refine l_toStr (l := []) Try.underlying37 Try.underlying5 Try.underlying9 (Rd.nil _ _ : Rd _ _ (bl [])) rfl (fun _ => rfl) rfl rfl rfl rfl ?_
  refine l_val (r_strNeq (c := false) rfl rfl rfl (by simp)) rfl rfl ?_
  refine l_val (r_move (v := .bool _) rfl rfl) rfl rfl ?_
  refine l_valG (r_move (v := .int _ _) rfl rfl) (by kernel_rfl) rfl ?_
  refine l_valG (r_move (v := .int _ _) rfl rfl) (by kernel_rfl) rfl ?_
  refine l_valG (r_neqN (b := false) rfl rfl rfl (decide_eq_false (by omega))) (by kernel_rfl) rfl ?_
  refine l_val (r_pick (v := .bool _) rfl rfl rfl) rfl rfl ?_
  refine l_end ?_
  refine n_then ?_
  refine c_false rfl ?_
  refine c_skip ?_
  refine n_then ?_
  refine c_seq ?_
  refine c_seq ?_
  refine c_reg ?_
  refine l_val (r_assign (v := .int _ _) rfl rfl) rfl rfl ?_
  refine l_end ?_
  refine n_then ?_
  refine c_block ?_
  refine c_loop (fun (i : Nat) (j : Nat → Value) => [keyV k, U64 m, .slice a l.length c, .pointer (some ⟨g1, 0, none⟩), j 4, j 5, .bool false, .slice a1 l.length c1, .slice none 0 0, j 9, j 10, j 11, .int .i64 (i : Int), j 13, .slice a l.length c, j 15, j 16, j 17, U64 m, j 19, j 20, .slice none 0 0, j 22, j 23, j 24, U64 m, .slice a l.length c, j 27, j 28, j 29, .slice none 0 0, j 31, j 32, j 33, .bool false, .bool false, j 36, j 37, .bool false, .bool false, j 40, j 41, j 42, j 43, j 44, j 45, j 46, j 47, j 48, j 49, j 50, j 51, j 52, j 53, j 54, j 55, j 56]) (fun (i : Nat) => [⟨g1, kc k, 23⟩] ++ Bs1) (fun (i : Nat) => i = 0) (fun (i : Nat) => 0) 0 (by kernel_rfl) hW rfl ?_
  intro i j W hx hW
  subst hx
  replace hW : Cl (base w) ([⟨g1, kc k, 23⟩] ++ Bs1) W := hW
  refine c_seq ?_
  refine c_seq ?_
  refine c_reg ?_
  refine l_val (r_move (v := .int _ _) rfl rfl) rfl rfl ?_
  refine l_val (r_move (v := .slice _ _ _) rfl rfl) rfl rfl ?_
  refine l_val (r_lenSlice Try.underlying37 rfl rfl) rfl rfl ?_
  refine l_val (r_lssN (b := false) rfl rfl rfl (decide_eq_false (by omega))) rfl rfl ?_
  refine l_end ?_
  refine n_then ?_
  refine c_false rfl ?_
  refine c_exit ?_
  refine x_then ?_
  refine x_then ?_
  refine x_hit ?_
  refine n_then ?_
  refine c_seq ?_
  refine c_reg ?_
  refine l_val (r_move (v := .slice _ _ _) rfl rfl) rfl rfl ?_
  refine l_toStr Try.underlying37 Try.underlying5 Try.underlying9 (hO1.rd (L := [_]) hW) rfl (fun h => (hO1.nilOf h).1) rfl rfl rfl rfl ?_
  refine l_val (r_move (v := .slice _ _ _) rfl rfl) rfl rfl ?_
  refine l_toStr Try.underlying37 Try.underlying5 Try.underlying9 (hP.past hW.below) rfl (fun h => (hnil h).1) rfl rfl rfl rfl ?_
  refine l_val (r_strEql (c := true) rfl rfl rfl (by simp)) rfl rfl ?_
  refine l_val (r_assign (v := .bool _) rfl rfl) rfl rfl ?_
  refine l_end ?_
  refine n_then ?_
  refine c_ret ?_
  refine ret_tmp (v := .bool true) rfl ?_ ⟨rfl, hW.below⟩
  rfl

set_option maxRecDepth 10000 in
/-- headend/headendlaw02.CipherStreams -/
theorem g_CipherStreamsS (k : Kw) (m : W64) (a : Option Addr) (c : Nat) (l : Bs8) (hcap : l.length ≤ c) (hnil : a = none → l.length = 0 ∧ c = 0) (hmax : l.length ≤ 140737488351232) (hb : ¬ 16384 < l.length) : GivesR Try.prog 6 [keyV k, U64 m, .slice a l.length c].toArray (fun w => Rd w a (bl l)) (.bool true) := by
  refine givesR_of Try.func6 rfl (bs := [keyV k, U64 m, .slice a l.length c, undef, undef, undef, undef, undef, undef, undef, undef, undef, undef, undef, undef, undef, undef, undef, undef, undef, undef, undef, undef, undef, undef, undef, undef, undef, undef, undef, undef, undef, undef, undef, undef, undef, undef, undef, undef, undef, undef, undef, undef, undef, undef, undef, undef, undef, undef, undef, undef, undef, undef, undef, undef, undef, undef]) rfl ?_
  intro w hP hW
  refine c_seq ?_
  refine c_reg ?_
  refine l_box hW rfl rfl rfl rfl ?_
  intro g1 W hW
  refine l_val (r_assign (v := .bool _) rfl rfl) rfl rfl ?_
  refine l_end ?_
  refine n_then ?_
  refine c_seq ?_
  refine c_reg ?_
  refine l_buildSliceF hW bsl37_0_ rfl rfl rfl rfl ?_
  intro gq W hW
  refine l_val (r_move (v := .slice _ _ _) rfl rfl) rfl rfl ?_
  refine l_appendR tyE37 (OwnSl.full (g := gq) (n := 0) (vs := []) rfl (by decide)) (hW.perm (List.perm_append_singleton _ _).symm) (hP.past hW.below) (N := l.length) (Nat.zero_add _) rfl rfl rfl rfl rfl (bl_len l) hnil (bl_one _) (by unfold maxLen; omega) (by omega) ?_
  intro a1 c1 Bs1 W hO1 hW
  rw [List.nil_append] at hO1
  refine l_val (r_assign (v := .slice _ _ _) rfl rfl) rfl rfl ?_
  refine l_end ?_
  refine n_then ?_
  refine c_seq ?_
  refine c_reg ?_
  refine l_loadA hW 0 tyA23 rfl rfl rfl rfl rfl (by first | rfl | exact kc_len _ | exact kcf_len _ | (simp; done)) ?_
  refine l_val (r_move (v := .int _ _) rfl rfl) rfl rfl ?_
  refine l_val (r_move (v := .slice _ _ _) rfl rfl) rfl rfl ?_
  refine l_callX hW (x_StreamS k m a1 c1 l hO1.le hb) en31 (hO1.rd hW) rfl rfl rfl rfl ?_
  rintro _ _ W ⟨go, rfl, rfl⟩ hW
  replace hW := hW.perm List.perm_append_comm
  refine l_val (r_move (v := .tuple _) rfl rfl) rfl rfl ?_
  refine l_val (r_extract (v := .slice _ _ _) rfl rfl rfl) rfl rfl ?_
  refine l_val (r_extract (v := .int _ _) rfl rfl rfl) rfl rfl ?_
  refine l_val (r_assign (v := .slice _ _ _) rfl rfl) rfl rfl ?_
  refine l_val (r_assign (v := .int _ _) rfl rfl) rfl rfl ?_
  refine l_end ?_
  refine n_then ?_
  refine c_seq ?_
  refine c_reg ?_
  refine l_loadA hW 1 tyA23 rfl rfl rfl rfl rfl (by first | rfl | exact kc_len _ | exact kcf_len _ | (simp; done)) ?_
  refine l_val (r_move (v := .int _ _) rfl rfl) rfl rfl ?_
  refine l_val (r_move (v := .slice _ _ _) rfl rfl) rfl rfl ?_
  refine l_callX hW (x_rStreamS k m a c l hcap hb) en32 (hP.past hW.below) rfl rfl rfl rfl ?_
  rintro _ Bs2 W ⟨u2, rfl, a2, c2, rfl, hO2⟩ hW
  refine l_val (r_move (v := .tuple _) rfl rfl) rfl rfl ?_
  refine l_val (r_extract (v := .slice _ _ _) rfl rfl rfl) rfl rfl ?_
  refine l_val (r_extract (v := .int _ _) rfl rfl rfl) rfl rfl ?_
  refine l_val (r_assign (v := .slice _ _ _) rfl rfl) rfl rfl ?_
  refine l_val (r_assign (v := .int _ _) rfl rfl) rfl rfl ?_
  refine l_end ?_
  refine n_then ?_
  refine c_seq ?_
  refine c_seq ?_
  refine c_reg ?_
  refine l_val (r_move (v := .slice _ _ _) rfl rfl) rfl rfl ?_
  refine l_toStr Try.underlying37 Try.underlying5 Try.underlying9 (hW.rd 0 rfl 0 l.length (by rw [List.drop_zero, List.take_of_length_le (by rw [bl_len, stream_len]; exact Nat.le_refl _)])) (stream_len k m l) (fun h => by cases h) rfl rfl rfl rfl ?_
  refine l_val (r_move (v := .slice _ _ _) rfl rfl) rfl rfl ?_
  refine l_toStr Try.underlying37 Try.underlying5 Try.underlying9 (hO2.rd hW) (stream_len k m l) (fun h => (hO2.nilOf h).1) rfl rfl rfl rfl ?_
  replace hW := hW.sub (List.sublist_append_left _ _)
  refine l_val (r_strNeq (c := false) rfl rfl rfl (by simp)) rfl rfl ?_
  refine l_val (r_move (v := .bool _) rfl rfl) rfl rfl ?_
  refine l_valG (r_move (v := .int _ _) rfl rfl) (by kernel_rfl) rfl ?_
  refine l_valG (r_move (v := .int _ _) rfl rfl) (by kernel_rfl) rfl ?_
  refine l_valG (r_neqN (b := false) rfl rfl rfl (decide_eq_false (by omega))) (by kernel_rfl) rfl ?_
  refine l_val (r_pick (v := .bool _) rfl rfl rfl) rfl rfl ?_
  refine l_end ?_
  refine n_then ?_
  refine c_false rfl ?_
  refine c_skip ?_
  refine n_then ?_
  refine c_seq ?_
  refine c_seq ?_
  refine c_reg ?_
  refine l_val (r_assign (v := .int _ _) rfl rfl) rfl rfl ?_
  refine l_end ?_
  refine n_then ?_
  refine c_block ?_
  refine c_loop (fun (x : Nat × Bs8) (j : Nat → Value) => [keyV k, U64 m, .slice a l.length c, .pointer (some ⟨g1, 0, none⟩), j 4, j 5, .bool false, .slice a1 l.length c1, .slice (some ⟨go, 0, none⟩) l.length l.length, j 9, j 10, j 11, .int .i64 (x.1 : Int), j 13, .slice a l.length c, j 15, j 16, j 17, U64 m, j 19, j 20, .slice (some ⟨go, 0, none⟩) l.length l.length, j 22, j 23, j 24, U64 m, .slice a l.length c, j 27, j 28, j 29, .slice (some ⟨go, 0, none⟩) l.length l.length, j 31, j 32, j 33, .bool false, .bool false, j 36, j 37, .bool false, .bool false, j 40, j 41, j 42, j 43, j 44, j 45, j 46, j 47, j 48, j 49, j 50, j 51, j 52, j 53, j 54, j 55, j 56]) (fun (x : Nat × Bs8) => [⟨go, bl x.2, 5⟩, ⟨g1, kc k, 23⟩] ++ Bs1) (fun (x : Nat × Bs8) => x.1 ≤ l.length ∧ x.2.length = l.length) (fun (x : Nat × Bs8) => l.length - x.1) (0, stream k m l) (by kernel_rfl) hW ⟨Nat.zero_le _, stream_len k m l⟩ ?_
  intro x j W hx hW
  obtain ⟨i, s⟩ := x
  have hi : i ≤ l.length := hx.1
  have hs : s.length = l.length := hx.2
  replace hW : Cl (base w) ([⟨go, bl s, 5⟩, ⟨g1, kc k, 23⟩] ++ Bs1) W := hW
  refine c_seq ?_
  refine c_seq ?_
  refine c_reg ?_
  refine l_val (r_move (v := .int _ _) rfl rfl) rfl rfl ?_
  refine l_val (r_move (v := .slice _ _ _) rfl rfl) rfl rfl ?_
  refine l_val (r_lenSlice Try.underlying37 rfl rfl) rfl rfl ?_
  refine l_val (r_lssN rfl rfl rfl rfl) rfl rfl ?_
  refine l_split ?_ ?_
  · intro hc1
    replace hc1 := of_decide_eq_true hc1
    refine l_end ?_
    refine n_then ?_
    refine c_true rfl ?_
    refine c_skip ?_
    refine n_then ?_
    refine c_seq ?_
    refine c_block ?_
    refine c_reg ?_
    refine l_val (r_move (v := .slice _ _ _) rfl rfl) rfl rfl ?_
    refine l_val (r_move (v := .int _ _) rfl rfl) rfl rfl ?_
    refine l_val (r_indexAddrSl1 Try.underlying37 tyC5.size rfl rfl rfl (by omega)) rfl rfl ?_
    refine l_loadC hW 0 tyC5 rfl rfl rfl rfl rfl (bl_get (gb_get (by omega))) ?_
    refine l_val (r_xor_u8 (y := 1#8) rfl rfl rfl) rfl rfl ?_
    refine l_val (r_indexAddrSl1 Try.underlying37 tyC5.size rfl rfl rfl (by omega)) rfl rfl ?_
    refine l_storeC hW 0 tyC5 (v := .int _ _) rfl rfl rfl rfl rfl rfl (by rw [bl_len]; omega) rfl ?_
    intro W hW
    refine l_end ?_
    refine n_block ?_
    refine n_then ?_
    refine c_reg ?_
    refine l_val (r_move (v := .int _ _) rfl rfl) rfl rfl ?_
    refine l_val (r_addN (n := 1) rfl rfl rfl (by omega)) rfl rfl ?_
    refine l_val (r_assign (v := .int _ _) rfl rfl) rfl rfl ?_
    refine l_end ?_
    refine n_then ?_
    exact loop_next (i + 1, s.set i (gb s i ^^^ 1#8)) (by kernel_rfl) (hW.to (by rw [← bl_set]; rfl)) ⟨by show i + 1 ≤ _; omega, by show (s.set i _).length = _; rw [List.length_set]; exact hs⟩ (by show l.length - (i + 1) < l.length - i; omega)
  · intro hc1
    replace hc1 := of_decide_eq_false hc1
    refine l_end ?_
    refine n_then ?_
    refine c_false rfl ?_
    refine c_exit ?_
    refine x_then ?_
    refine x_then ?_
    refine x_hit ?_
    refine n_then ?_
    refine c_seq ?_
    refine c_reg ?_
    refine l_val (r_move (v := .slice _ _ _) rfl rfl) rfl rfl ?_
    refine l_toStr Try.underlying37 Try.underlying5 Try.underlying9 (hO1.rd (L := [_, _]) hW) rfl (fun h => (hO1.nilOf h).1) rfl rfl rfl rfl ?_
    refine l_val (r_move (v := .slice _ _ _) rfl rfl) rfl rfl ?_
    refine l_toStr Try.underlying37 Try.underlying5 Try.underlying9 (hP.past hW.below) rfl (fun h => (hnil h).1) rfl rfl rfl rfl ?_
    refine l_val (r_strEql (c := true) rfl rfl rfl (by simp)) rfl rfl ?_
    refine l_val (r_assign (v := .bool _) rfl rfl) rfl rfl ?_
    refine l_end ?_
    refine n_then ?_
    refine c_ret ?_
    refine ret_tmp (v := .bool true) rfl ?_ ⟨rfl, hW.below⟩
    rfl

end Go.Proofs.Ytlabfinhdidmaaa
