/- Laws of MACs and digests. -/
import Derived.Test.YtlabfinhdidmaaaFacts
import Derived.Test.YtlabfinhdidmaaaVals
import Derived.Test.YtlabfinhdidmaaaC13
import Derived.Test.YtlabfinhdidmaaaVals2
namespace Go.Proofs.Ytlabfinhdidmaaa
open Go.RowKit Pl

theorem g_MacB (k : Kw) (a : Option Addr) (c : Nat) (l : Bs8) (hcap : l.length ≤ c) (hb : 16384 < l.length) : GivesR Try.prog 33 [keyV k, .slice a l.length c].toArray (fun w => Rd w a (bl l)) (.tuple #[keyV (0#64, 0#64), .int .i64 4]) := by
  have h := g_Mac k a l.length c l rfl hcap
  rwa [macV, if_pos hb] at h

theorem g_rMacB (k : Kw) (a : Option Addr) (c : Nat) (l : Bs8) (hcap : l.length ≤ c) (hb : 16384 < l.length) : GivesR Try.prog 34 [keyV k, .slice a l.length c].toArray (fun w => Rd w a (bl l)) (.tuple #[keyV (0#64, 0#64), .int .i64 4]) := by
  have h := g_rMac k a l.length c l rfl hcap
  rwa [macV, if_pos hb] at h

theorem g_HashB (a : Option Addr) (c : Nat) (l : Bs8) (hcap : l.length ≤ c) (hnil : a = none → l.length = 0 ∧ c = 0) (hb : 16384 < l.length) : GivesR Try.prog 35 [.slice a l.length c].toArray (fun w => Rd w a (bl l)) (.tuple #[keyV (0#64, 0#64), .int .i64 4]) := by
  have h := g_Hash a l.length c l rfl hcap hnil
  rwa [hashV, if_pos hb] at h

theorem g_rHashB (a : Option Addr) (c : Nat) (l : Bs8) (hcap : l.length ≤ c) (hnil : a = none → l.length = 0 ∧ c = 0) (hb : 16384 < l.length) : GivesR Try.prog 36 [.slice a l.length c].toArray (fun w => Rd w a (bl l)) (.tuple #[keyV (0#64, 0#64), .int .i64 4]) := by
  have h := g_rHash a l.length c l rfl hcap hnil
  rwa [hashV, if_pos hb] at h

theorem g_MacS (k : Kw) (a : Option Addr) (c : Nat) (l : Bs8) (hcap : l.length ≤ c) (hb : ¬ 16384 < l.length) : GivesR Try.prog 33 [keyV k, .slice a l.length c].toArray (fun w => Rd w a (bl l)) (.tuple #[keyV (mac k l), .int .i64 0]) := by
  have h := g_Mac k a l.length c l rfl hcap
  rwa [macV, if_neg hb] at h

theorem g_rMacS (k : Kw) (a : Option Addr) (c : Nat) (l : Bs8) (hcap : l.length ≤ c) (hb : ¬ 16384 < l.length) : GivesR Try.prog 34 [keyV k, .slice a l.length c].toArray (fun w => Rd w a (bl l)) (.tuple #[keyV (mac k l), .int .i64 0]) := by
  have h := g_rMac k a l.length c l rfl hcap
  rwa [macV, if_neg hb] at h

theorem g_HashS (a : Option Addr) (c : Nat) (l : Bs8) (hcap : l.length ≤ c) (hnil : a = none → l.length = 0 ∧ c = 0) (hb : ¬ 16384 < l.length) : GivesR Try.prog 35 [.slice a l.length c].toArray (fun w => Rd w a (bl l)) (.tuple #[keyV (hash l), .int .i64 0]) := by
  have h := g_Hash a l.length c l rfl hcap hnil
  rwa [hashV, if_neg hb] at h

theorem g_rHashS (a : Option Addr) (c : Nat) (l : Bs8) (hcap : l.length ≤ c) (hnil : a = none → l.length = 0 ∧ c = 0) (hb : ¬ 16384 < l.length) : GivesR Try.prog 36 [.slice a l.length c].toArray (fun w => Rd w a (bl l)) (.tuple #[keyV (hash l), .int .i64 0]) := by
  have h := g_rHash a l.length c l rfl hcap hnil
  rwa [hashV, if_neg hb] at h

set_option maxRecDepth 10000 in
/-- headend/headendlaw02.CipherHashes -/
theorem g_CipherHashesB (a : Option Addr) (c : Nat) (l : Bs8) (hcap : l.length ≤ c) (hnil : a = none → l.length = 0 ∧ c = 0) (_ : l.length ≤ 140737488351232) (hb : 16384 < l.length) : GivesR Try.prog 8 [.slice a l.length c].toArray (fun w => Rd w a (bl l)) (.bool true) := by
  refine givesR_of Try.func8 rfl (bs := [.slice a l.length c, undef, undef, undef, undef, undef, undef, undef, undef, undef, undef, undef, undef, undef, undef, undef, undef, undef, undef, undef, undef, undef, undef, undef, undef]) rfl ?_
  intro w hP hW
  refine c_seq ?_
  refine c_reg ?_
  refine l_val (r_assign (v := .bool _) rfl rfl) rfl rfl ?_
  refine l_end ?_
  refine n_then ?_
  refine c_seq ?_
  refine c_reg ?_
  refine l_val (r_move (v := .slice _ _ _) rfl rfl) rfl rfl ?_
  refine l_callR hW (g_HashB a c l hcap hnil hb) en35 (hP.past hW.below) rfl rfl rfl rfl ?_
  intro W hW
  refine l_val (r_move (v := .tuple _) rfl rfl) rfl rfl ?_
  refine l_val (r_extract (v := .agg _) rfl rfl rfl) rfl rfl ?_
  refine l_val (r_extract (v := .int _ _) rfl rfl rfl) rfl rfl ?_
  refine l_alloc hW tyZ23 rfl rfl rfl ?_
  intro g1 W hW
  refine l_storeA hW 0 tyA23 rfl rfl rfl rfl rfl rfl (by first | rfl | exact kc_len _ | exact kcf_len _ | (simp; done)) (by first | rfl | exact kc_len _ | exact kcf_len _ | (simp; done)) (by first | exact kc_one _ | exact kcf_one _ | (simp [Value.oneCell']; done)) ?_
  intro W hW
  refine l_val (r_assign (v := .int _ _) rfl rfl) rfl rfl ?_
  refine l_end ?_
  refine n_then ?_
  refine c_seq ?_
  refine c_reg ?_
  refine l_val (r_move (v := .slice _ _ _) rfl rfl) rfl rfl ?_
  refine l_callR hW (g_rHashB a c l hcap hnil hb) en36 (hP.past hW.below) rfl rfl rfl rfl ?_
  intro W hW
  refine l_val (r_move (v := .tuple _) rfl rfl) rfl rfl ?_
  refine l_val (r_extract (v := .agg _) rfl rfl rfl) rfl rfl ?_
  refine l_val (r_extract (v := .int _ _) rfl rfl rfl) rfl rfl ?_
  refine l_alloc hW tyZ23 rfl rfl rfl ?_
  intro g2 W hW
  refine l_storeA hW 0 tyA23 rfl rfl rfl rfl rfl rfl (by first | rfl | exact kc_len _ | exact kcf_len _ | (simp; done)) (by first | rfl | exact kc_len _ | exact kcf_len _ | (simp; done)) (by first | exact kc_one _ | exact kcf_one _ | (simp [Value.oneCell']; done)) ?_
  intro W hW
  refine l_val (r_assign (v := .int _ _) rfl rfl) rfl rfl ?_
  refine l_end ?_
  refine n_then ?_
  refine c_seq ?_
  refine c_reg ?_
  refine l_loadA hW 1 tyA23 rfl rfl rfl rfl rfl (by first | rfl | exact kc_len _ | exact kcf_len _ | (simp; done)) ?_
  refine l_loadA hW 0 tyA23 rfl rfl rfl rfl rfl (by first | rfl | exact kc_len _ | exact kcf_len _ | (simp; done)) ?_
  refine l_val (r_eqlK tyK23 _ _ (c := true) rfl rfl rfl (by simp)) rfl rfl ?_
  refine l_val (r_move (v := .bool _) rfl rfl) rfl rfl ?_
  refine l_valG (r_move (v := .int _ _) rfl rfl) (by kernel_rfl) rfl ?_
  refine l_valG (r_move (v := .int _ _) rfl rfl) (by kernel_rfl) rfl ?_
  refine l_valG (r_eqlN (b := true) (m := 4) (n := 4) rfl rfl rfl rfl) (by kernel_rfl) rfl ?_
  refine l_val (r_pick (v := .bool _) rfl rfl rfl) rfl rfl ?_
  refine l_val (r_assign (v := .bool _) rfl rfl) rfl rfl ?_
  refine l_end ?_
  refine n_then ?_
  refine c_ret ?_
  refine ret_tmp (v := .bool true) rfl ?_ ⟨rfl, hW.below⟩
  rfl

set_option maxRecDepth 10000 in
/-- headend/headendlaw02.CipherMacs -/
theorem g_CipherMacsB (k : Kw) (a : Option Addr) (c : Nat) (l : Bs8) (hcap : l.length ≤ c) (hnil : a = none → l.length = 0 ∧ c = 0) (hmax : l.length ≤ 140737488351232) (hb : 16384 < l.length) : GivesR Try.prog 7 [keyV k, .slice a l.length c].toArray (fun w => Rd w a (bl l)) (.bool true) := by
  refine givesR_of Try.func7 rfl (bs := [keyV k, .slice a l.length c, undef, undef, undef, undef, undef, undef, undef, undef, undef, undef, undef, undef, undef, undef, undef, undef, undef, undef, undef, undef, undef, undef, undef, undef, undef, undef, undef, undef, undef, undef, undef, undef, undef, undef, undef, undef, undef, undef]) rfl ?_
  intro w hP hW
  refine c_seq ?_
  refine c_reg ?_
  refine l_box hW rfl rfl rfl rfl ?_
  intro g1 W hW
  refine l_val (r_assign (v := .bool _) rfl rfl) rfl rfl ?_
  refine l_end ?_
  refine n_then ?_
  refine c_seq ?_
  refine c_reg ?_
  refine l_buildSliceF hW bsl37_0_ rfl rfl rfl rfl ?_
  intro gq W hW
  refine l_val (r_move (v := .slice _ _ _) rfl rfl) rfl rfl ?_
  refine l_appendR tyE37 (OwnSl.full (g := gq) (n := 0) (vs := []) rfl (by decide)) (hW.perm (List.perm_append_singleton _ _).symm) (hP.past hW.below) (N := l.length) (Nat.zero_add _) rfl rfl rfl rfl rfl (bl_len l) hnil (bl_one _) (by unfold maxLen; omega) (by omega) ?_
  intro a1 c1 Bs1 W hO1 hW
  rw [List.nil_append] at hO1
  refine l_val (r_assign (v := .slice _ _ _) rfl rfl) rfl rfl ?_
  refine l_end ?_
  refine n_then ?_
  refine c_seq ?_
  refine c_reg ?_
  refine l_loadA hW 0 tyA23 rfl rfl rfl rfl rfl (by first | rfl | exact kc_len _ | exact kcf_len _ | (simp; done)) ?_
  refine l_val (r_move (v := .slice _ _ _) rfl rfl) rfl rfl ?_
  refine l_callR hW (g_MacB k a1 c1 l hO1.le hb) en33 (hO1.rd hW) rfl rfl rfl rfl ?_
  intro W hW
  refine l_val (r_move (v := .tuple _) rfl rfl) rfl rfl ?_
  refine l_val (r_extract (v := .agg _) rfl rfl rfl) rfl rfl ?_
  refine l_val (r_extract (v := .int _ _) rfl rfl rfl) rfl rfl ?_
  refine l_alloc hW tyZ23 rfl rfl rfl ?_
  intro g2 W hW
  refine l_storeA hW 0 tyA23 rfl rfl rfl rfl rfl rfl (by first | rfl | exact kc_len _ | exact kcf_len _ | (simp; done)) (by first | rfl | exact kc_len _ | exact kcf_len _ | (simp; done)) (by first | exact kc_one _ | exact kcf_one _ | (simp [Value.oneCell']; done)) ?_
  intro W hW
  refine l_val (r_assign (v := .int _ _) rfl rfl) rfl rfl ?_
  refine l_end ?_
  refine n_then ?_
  refine c_seq ?_
  refine c_reg ?_
  refine l_loadA hW 1 tyA23 rfl rfl rfl rfl rfl (by first | rfl | exact kc_len _ | exact kcf_len _ | (simp; done)) ?_
  refine l_val (r_move (v := .slice _ _ _) rfl rfl) rfl rfl ?_
  refine l_callR hW (g_rMacB k a c l hcap hb) en34 (hP.past hW.below) rfl rfl rfl rfl ?_
  intro W hW
  refine l_val (r_move (v := .tuple _) rfl rfl) rfl rfl ?_
  refine l_val (r_extract (v := .agg _) rfl rfl rfl) rfl rfl ?_
  refine l_val (r_extract (v := .int _ _) rfl rfl rfl) rfl rfl ?_
  refine l_alloc hW tyZ23 rfl rfl rfl ?_
  intro g3 W hW
  refine l_storeA hW 0 tyA23 rfl rfl rfl rfl rfl rfl (by first | rfl | exact kc_len _ | exact kcf_len _ | (simp; done)) (by first | rfl | exact kc_len _ | exact kcf_len _ | (simp; done)) (by first | exact kc_one _ | exact kcf_one _ | (simp [Value.oneCell']; done)) ?_
  intro W hW
  refine l_val (r_assign (v := .int _ _) rfl rfl) rfl rfl ?_
  refine l_end ?_
  refine n_then ?_
  refine c_seq ?_
  refine c_reg ?_
  refine l_loadA hW 1 tyA23 rfl rfl rfl rfl rfl (by first | rfl | exact kc_len _ | exact kcf_len _ | (simp; done)) ?_
  refine l_loadA hW 0 tyA23 rfl rfl rfl rfl rfl (by first | rfl | exact kc_len _ | exact kcf_len _ | (simp; done)) ?_
  refine l_val (r_eqlK tyK23 _ _ (c := true) rfl rfl rfl (by simp)) rfl rfl ?_
  refine l_val (r_move (v := .bool _) rfl rfl) rfl rfl ?_
  refine l_valG (r_move (v := .int _ _) rfl rfl) (by kernel_rfl) rfl ?_
  refine l_valG (r_move (v := .int _ _) rfl rfl) (by kernel_rfl) rfl ?_
  refine l_valG (r_eqlN (b := true) (m := 4) (n := 4) rfl rfl rfl rfl) (by kernel_rfl) rfl ?_
  refine l_val (r_pick (v := .bool _) rfl rfl rfl) rfl rfl ?_
  refine l_val (r_move (v := .bool _) rfl rfl) rfl rfl ?_
  refine l_valG (r_move (v := .slice _ _ _) rfl rfl) (by kernel_rfl) rfl ?_
  refine l_toStr Try.underlying37 Try.underlying5 Try.underlying9 (hO1.rd (L := [_, _, _]) hW) rfl (fun h => (hO1.nilOf h).1) (by kernel_rfl) rfl rfl rfl ?_
  refine l_valG (r_move (v := .slice _ _ _) rfl rfl) (by kernel_rfl) rfl ?_
  refine l_toStr Try.underlying37 Try.underlying5 Try.underlying9 (hP.past hW.below) rfl (fun h => (hnil h).1) (by kernel_rfl) rfl rfl rfl ?_
  refine l_valG (r_strEql (c := true) rfl rfl rfl (by simp)) (by kernel_rfl) rfl ?_
  refine l_val (r_pick (v := .bool _) rfl rfl rfl) rfl rfl ?_
  refine l_val (r_assign (v := .bool _) rfl rfl) rfl rfl ?_
  refine l_end ?_
  refine n_then ?_
  refine c_ret ?_
  refine ret_tmp (v := .bool true) rfl ?_ ⟨rfl, hW.below⟩
  rfl

set_option maxRecDepth 10000 in
/-- headend/headendlaw02.CipherHashes -/
theorem g_CipherHashesS (a : Option Addr) (c : Nat) (l : Bs8) (hcap : l.length ≤ c) (hnil : a = none → l.length = 0 ∧ c = 0) (_ : l.length ≤ 140737488351232) (hb : ¬ 16384 < l.length) : GivesR Try.prog 8 [.slice a l.length c].toArray (fun w => Rd w a (bl l)) (.bool true) := by
  refine givesR_of Try.func8 rfl (bs := [.slice a l.length c, undef, undef, undef, undef, undef, undef, undef, undef, undef, undef, undef, undef, undef, undef, undef, undef, undef, undef, undef, undef, undef, undef, undef, undef]) rfl ?_
  intro w hP hW
  refine c_seq ?_
  refine c_reg ?_
  refine l_val (r_assign (v := .bool _) rfl rfl) rfl rfl ?_
  refine l_end ?_
  refine n_then ?_
  refine c_seq ?_
  refine c_reg ?_
  refine l_val (r_move (v := .slice _ _ _) rfl rfl) rfl rfl ?_
  refine l_callR hW (g_HashS a c l hcap hnil hb) en35 (hP.past hW.below) rfl rfl rfl rfl ?_
  intro W hW
  refine l_val (r_move (v := .tuple _) rfl rfl) rfl rfl ?_
  refine l_val (r_extract (v := .agg _) rfl rfl rfl) rfl rfl ?_
  refine l_val (r_extract (v := .int _ _) rfl rfl rfl) rfl rfl ?_
  refine l_alloc hW tyZ23 rfl rfl rfl ?_
  intro g1 W hW
  refine l_storeA hW 0 tyA23 rfl rfl rfl rfl rfl rfl (by first | rfl | exact kc_len _ | exact kcf_len _ | (simp; done)) (by first | rfl | exact kc_len _ | exact kcf_len _ | (simp; done)) (by first | exact kc_one _ | exact kcf_one _ | (simp [Value.oneCell']; done)) ?_
  intro W hW
  refine l_val (r_assign (v := .int _ _) rfl rfl) rfl rfl ?_
  refine l_end ?_
  refine n_then ?_
  refine c_seq ?_
  refine c_reg ?_
  refine l_val (r_move (v := .slice _ _ _) rfl rfl) rfl rfl ?_
  refine l_callR hW (g_rHashS a c l hcap hnil hb) en36 (hP.past hW.below) rfl rfl rfl rfl ?_
  intro W hW
  refine l_val (r_move (v := .tuple _) rfl rfl) rfl rfl ?_
  refine l_val (r_extract (v := .agg _) rfl rfl rfl) rfl rfl ?_
  refine l_val (r_extract (v := .int _ _) rfl rfl rfl) rfl rfl ?_
  refine l_alloc hW tyZ23 rfl rfl rfl ?_
  intro g2 W hW
  refine l_storeA hW 0 tyA23 rfl rfl rfl rfl rfl rfl (by first | rfl | exact kc_len _ | exact kcf_len _ | (simp; done)) (by first | rfl | exact kc_len _ | exact kcf_len _ | (simp; done)) (by first | exact kc_one _ | exact kcf_one _ | (simp [Value.oneCell']; done)) ?_
  intro W hW
  refine l_val (r_assign (v := .int _ _) rfl rfl) rfl rfl ?_
  refine l_end ?_
  refine n_then ?_
  refine c_seq ?_
  refine c_reg ?_
  refine l_loadA hW 1 tyA23 rfl rfl rfl rfl rfl (by first | rfl | exact kc_len _ | exact kcf_len _ | (simp; done)) ?_
  refine l_loadA hW 0 tyA23 rfl rfl rfl rfl rfl (by first | rfl | exact kc_len _ | exact kcf_len _ | (simp; done)) ?_
  refine l_val (r_eqlK tyK23 _ _ (c := true) rfl rfl rfl (by simp)) rfl rfl ?_
  refine l_val (r_move (v := .bool _) rfl rfl) rfl rfl ?_
  refine l_valG (r_move (v := .int _ _) rfl rfl) (by kernel_rfl) rfl ?_
  refine l_valG (r_move (v := .int _ _) rfl rfl) (by kernel_rfl) rfl ?_
  refine l_valG (r_eqlN (b := true) (m := 0) (n := 0) rfl rfl rfl rfl) (by kernel_rfl) rfl ?_
  refine l_val (r_pick (v := .bool _) rfl rfl rfl) rfl rfl ?_
  refine l_val (r_assign (v := .bool _) rfl rfl) rfl rfl ?_
  refine l_end ?_
  refine n_then ?_
  refine c_ret ?_
  refine ret_tmp (v := .bool true) rfl ?_ ⟨rfl, hW.below⟩
  rfl

set_option maxRecDepth 10000 in
/-- headend/headendlaw02.CipherMacs -/
theorem g_CipherMacsS (k : Kw) (a : Option Addr) (c : Nat) (l : Bs8) (hcap : l.length ≤ c) (hnil : a = none → l.length = 0 ∧ c = 0) (hmax : l.length ≤ 140737488351232) (hb : ¬ 16384 < l.length) : GivesR Try.prog 7 [keyV k, .slice a l.length c].toArray (fun w => Rd w a (bl l)) (.bool true) := by
  refine givesR_of Try.func7 rfl (bs := [keyV k, .slice a l.length c, undef, undef, undef, undef, undef, undef, undef, undef, undef, undef, undef, undef, undef, undef, undef, undef, undef, undef, undef, undef, undef, undef, undef, undef, undef, undef, undef, undef, undef, undef, undef, undef, undef, undef, undef, undef, undef, undef]) rfl ?_
  intro w hP hW
  refine c_seq ?_
  refine c_reg ?_
  refine l_box hW rfl rfl rfl rfl ?_
  intro g1 W hW
  refine l_val (r_assign (v := .bool _) rfl rfl) rfl rfl ?_
  refine l_end ?_
  refine n_then ?_
  refine c_seq ?_
  refine c_reg ?_
  refine l_buildSliceF hW bsl37_0_ rfl rfl rfl rfl ?_
  intro gq W hW
  refine l_val (r_move (v := .slice _ _ _) rfl rfl) rfl rfl ?_
  refine l_appendR tyE37 (OwnSl.full (g := gq) (n := 0) (vs := []) rfl (by decide)) (hW.perm (List.perm_append_singleton _ _).symm) (hP.past hW.below) (N := l.length) (Nat.zero_add _) rfl rfl rfl rfl rfl (bl_len l) hnil (bl_one _) (by unfold maxLen; omega) (by omega) ?_
  intro a1 c1 Bs1 W hO1 hW
  rw [List.nil_append] at hO1
  refine l_val (r_assign (v := .slice _ _ _) rfl rfl) rfl rfl ?_
  refine l_end ?_
  refine n_then ?_
  refine c_seq ?_
  refine c_reg ?_
  refine l_loadA hW 0 tyA23 rfl rfl rfl rfl rfl (by first | rfl | exact kc_len _ | exact kcf_len _ | (simp; done)) ?_
  refine l_val (r_move (v := .slice _ _ _) rfl rfl) rfl rfl ?_
  refine l_callR hW (g_MacS k a1 c1 l hO1.le hb) en33 (hO1.rd hW) rfl rfl rfl rfl ?_
  intro W hW
  refine l_val (r_move (v := .tuple _) rfl rfl) rfl rfl ?_
  refine l_val (r_extract (v := .agg _) rfl rfl rfl) rfl rfl ?_
  refine l_val (r_extract (v := .int _ _) rfl rfl rfl) rfl rfl ?_
  refine l_alloc hW tyZ23 rfl rfl rfl ?_
  intro g2 W hW
  refine l_storeA hW 0 tyA23 rfl rfl rfl rfl rfl rfl (by first | rfl | exact kc_len _ | exact kcf_len _ | (simp; done)) (by first | rfl | exact kc_len _ | exact kcf_len _ | (simp; done)) (by first | exact kc_one _ | exact kcf_one _ | (simp [Value.oneCell']; done)) ?_
  intro W hW
  refine l_val (r_assign (v := .int _ _) rfl rfl) rfl rfl ?_
  refine l_end ?_
  refine n_then ?_
  refine c_seq ?_
  refine c_reg ?_
  refine l_loadA hW 1 tyA23 rfl rfl rfl rfl rfl (by first | rfl | exact kc_len _ | exact kcf_len _ | (simp; done)) ?_
  refine l_val (r_move (v := .slice _ _ _) rfl rfl) rfl rfl ?_
  refine l_callR hW (g_rMacS k a c l hcap hb) en34 (hP.past hW.below) rfl rfl rfl rfl ?_
  intro W hW
  refine l_val (r_move (v := .tuple _) rfl rfl) rfl rfl ?_
  refine l_val (r_extract (v := .agg _) rfl rfl rfl) rfl rfl ?_
  refine l_val (r_extract (v := .int _ _) rfl rfl rfl) rfl rfl ?_
  refine l_alloc hW tyZ23 rfl rfl rfl ?_
  intro g3 W hW
  refine l_storeA hW 0 tyA23 rfl rfl rfl rfl rfl rfl (by first | rfl | exact kc_len _ | exact kcf_len _ | (simp; done)) (by first | rfl | exact kc_len _ | exact kcf_len _ | (simp; done)) (by first | exact kc_one _ | exact kcf_one _ | (simp [Value.oneCell']; done)) ?_
  intro W hW
  refine l_val (r_assign (v := .int _ _) rfl rfl) rfl rfl ?_
  refine l_end ?_
  refine n_then ?_
  refine c_seq ?_
  refine c_reg ?_
  refine l_loadA hW 1 tyA23 rfl rfl rfl rfl rfl (by first | rfl | exact kc_len _ | exact kcf_len _ | (simp; done)) ?_
  refine l_loadA hW 0 tyA23 rfl rfl rfl rfl rfl (by first | rfl | exact kc_len _ | exact kcf_len _ | (simp; done)) ?_
  refine l_val (r_eqlK tyK23 _ _ (c := true) rfl rfl rfl (by simp)) rfl rfl ?_
  refine l_val (r_move (v := .bool _) rfl rfl) rfl rfl ?_
  refine l_valG (r_move (v := .int _ _) rfl rfl) (by kernel_rfl) rfl ?_
  refine l_valG (r_move (v := .int _ _) rfl rfl) (by kernel_rfl) rfl ?_
  refine l_valG (r_eqlN (b := true) (m := 0) (n := 0) rfl rfl rfl rfl) (by kernel_rfl) rfl ?_
  refine l_val (r_pick (v := .bool _) rfl rfl rfl) rfl rfl ?_
  refine l_val (r_move (v := .bool _) rfl rfl) rfl rfl ?_
  refine l_valG (r_move (v := .slice _ _ _) rfl rfl) (by kernel_rfl) rfl ?_
  refine l_toStr Try.underlying37 Try.underlying5 Try.underlying9 (hO1.rd (L := [_, _, _]) hW) rfl (fun h => (hO1.nilOf h).1) (by kernel_rfl) rfl rfl rfl ?_
  refine l_valG (r_move (v := .slice _ _ _) rfl rfl) (by kernel_rfl) rfl ?_
  refine l_toStr Try.underlying37 Try.underlying5 Try.underlying9 (hP.past hW.below) rfl (fun h => (hnil h).1) (by kernel_rfl) rfl rfl rfl ?_
  refine l_valG (r_strEql (c := true) rfl rfl rfl (by simp)) (by kernel_rfl) rfl ?_
  refine l_val (r_pick (v := .bool _) rfl rfl rfl) rfl rfl ?_
  refine l_val (r_assign (v := .bool _) rfl rfl) rfl rfl ?_
  refine l_end ?_
  refine n_then ?_
  refine c_ret ?_
  refine ret_tmp (v := .bool true) rfl ?_ ⟨rfl, hW.below⟩
  rfl

end Go.Proofs.Ytlabfinhdidmaaa
