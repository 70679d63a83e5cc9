/- Derived keys and numbers. -/
import Derived.Test.YtoegpalacppllaaFacts
import Derived.Test.YtoegpalacppllaaVals
import Derived.Test.YtoegpalacppllaaC8
namespace Go.Proofs.Ytoegpalacppllaa
open Go.RowKit Pl

theorem g_keyBlk (g c : Nat) (tag : BitVec 8) (k n : W64) (hk : k.toNat < 72057594037927936) : GivesR Try.prog 122 [.slice (some ⟨g, 0, none⟩) 16 c].toArray (fun w => ∀ j u, ([B8 tag] ++ bl (lowB k 7) ++ bl (lowB n 8))[j]? = some u → w.cell? ⟨g, 0 + j, none⟩ = some u) (keyV (blk tag k n)) := by
  have h := g_key g 0 16 c (byt (blk tag k n)) (by decide)
  rw [upto16] at h
  exact fun w hP => h w fun j hj => hP j _ (by
    have := bl_get (blk_list tag k n hk j hj)
    simpa [bl] using this)

set_option maxRecDepth 10000 in
/-- headend/headendref02.Block -/
theorem g_rBlock (tag : BitVec 8) (c n : W64) (hc : c.toNat < 72057594037927936) : Gives Try.prog 97 [B8 tag, U64 c, U64 n].toArray (keyV (blk tag c n)) := by
  refine gives_of Try.func97 rfl (bs := [B8 tag, U64 c, U64 n, undef, undef, undef, undef, undef, undef, undef, undef, undef, undef, undef, undef, undef, undef, undef]) rfl ?_
  intro w hW
  refine c_seq ?_
  refine c_reg ?_
  refine l_alloc hW tyZ37 rfl rfl rfl ?_
  intro g1 W hW
  refine l_end ?_
  refine n_then ?_
  refine c_seq ?_
  refine c_reg ?_
  refine l_val (r_move (v := .int _ _) rfl rfl) rfl rfl ?_
  refine l_buildSlice1 (v := .int _ _) hW Try.underlying172 tyC5 tyZ5 rfl rfl rfl rfl rfl ?_
  intro gq W hW
  refine l_val (r_move (v := .int _ _) rfl rfl) rfl rfl ?_
  refine l_callX hW (g_Bytes c 7 (by decide)) en123 trivial rfl rfl rfl rfl ?_
  rintro _ Bs1 W ⟨a1, c1, rfl, hO1⟩ hW
  refine l_appendO tyE172 (L := [_]) (OwnSl.full (g := gq) (n := 1) (vs := [B8 tag]) rfl (by decide)) hO1 (hW.perm (List.Perm.swap _ _ _)) (N := 8) rfl rfl rfl rfl rfl rfl (bl_one _) (by decide) (by decide) ?_
  intro a3 c3 Bs3 W hO3 hW
  refine l_val (r_assign (v := .slice _ _ _) rfl rfl) rfl rfl ?_
  refine l_end ?_
  refine n_then ?_
  refine c_seq ?_
  refine c_reg ?_
  refine l_val (r_move (v := .slice _ _ _) rfl rfl) rfl rfl ?_
  refine l_val (r_move (v := .int _ _) rfl rfl) rfl rfl ?_
  refine l_callX hW (g_Bytes n 8 (by decide)) en123 trivial rfl rfl rfl rfl ?_
  rintro _ Bs4 W ⟨a4, c4, rfl, hO4⟩ hW
  refine l_appendO tyE172 hO3 hO4 hW (N := 16) rfl rfl rfl rfl rfl rfl (bl_one _) (by decide) (by decide) ?_
  intro a5 c5 Bs5 W hO5 hW
  obtain ⟨g5, rfl, hc5⟩ := hO5.cells (by decide) hW
  refine l_callR hW (g_keyBlk g5 c5 tag c n hc) en122 hc5 rfl rfl rfl rfl ?_
  intro W hW
  replace hW := hW.sub (List.sublist_append_left _ _)
  refine l_storeA hW 0 tyA37 rfl rfl rfl rfl rfl rfl (by first | rfl | exact kc_len _ | exact kcf_len _ | (simp; done)) (by first | rfl | exact kc_len _ | exact kcf_len _ | (simp; done)) (by first | exact kc_one _ | exact kcf_one _ | (simp [Value.oneCell']; done)) ?_
  intro W hW
  refine l_end ?_
  refine n_then ?_
  refine c_ret ?_
  refine ret_cell hW 0 tyA37 rfl rfl rfl (by first | rfl | exact kc_len _ | exact kcf_len _ | (simp; done)) ?_
  exact ⟨rfl, hW.below⟩

set_option maxRecDepth 10000 in
/-- headend/cipher.Derive -/
theorem g_Derive (k : Kw) (tag : BitVec 8) (n : W64) : Gives Try.prog 59 [keyV k, B8 tag, U64 n].toArray (keyV (derive k tag n)) := by
  refine gives_of Try.func59 rfl (bs := [keyV k, B8 tag, U64 n, undef, undef, undef, undef, undef, undef, undef, undef, undef]) rfl ?_
  intro w hW
  refine c_seq ?_
  refine c_reg ?_
  refine l_box hW rfl rfl rfl rfl ?_
  intro g1 W hW
  refine l_alloc hW tyZ37 rfl rfl rfl ?_
  intro g2 W hW
  refine l_end ?_
  refine n_then ?_
  refine c_seq ?_
  refine c_regY hW [0] [.q, .q, .q, .q, .q, .s] [0, 0, 0, 6, 15, 31] (by kernel_rfl) (by kernel_rfl) ?_
  refine y_loadA 1 tyA37 rfl rfl rfl rfl rfl (by first | rfl | exact kc_len _ | exact kcf_len _ | (simp; done)) (by decide) ?_
  refine y_val (r_move (v := .int _ _) rfl rfl) rfl rfl ?_
  refine y_val (r_move (v := .int _ _) rfl rfl) rfl rfl ?_
  refine y_call (g_blockOf _ 0 _) en90 rfl rfl rfl rfl ?_
  refine y_call (g_Encrypt _ _) en58 rfl rfl rfl rfl ?_
  refine y_storeA 0 tyA37 rfl rfl rfl rfl rfl rfl (by first | rfl | exact kc_len _ | exact kcf_len _ | (simp; done)) (by first | rfl | exact kc_len _ | exact kcf_len _ | (simp; done)) (by first | exact kc_one _ | exact kcf_one _ | (simp [Value.oneCell']; done)) (by decide) ?_
  refine y_end ?_
  intro W hW
  refine n_then ?_
  refine c_ret ?_
  refine ret_cell hW 0 tyA37 rfl rfl rfl (by first | rfl | exact kc_len _ | exact kcf_len _ | (simp; done)) ?_
  exact ⟨rfl, hW.below⟩

set_option maxRecDepth 10000 in
/-- headend/headendref02.Derive -/
theorem g_rDerive (k : Kw) (tag : BitVec 8) (n : W64) : Gives Try.prog 63 [keyV k, B8 tag, U64 n].toArray (keyV (derive k tag n)) := by
  refine gives_of Try.func63 rfl (bs := [keyV k, B8 tag, U64 n, undef, undef, undef, undef, undef, undef, undef, undef, undef]) rfl ?_
  intro w hW
  refine c_seq ?_
  refine c_reg ?_
  refine l_box hW rfl rfl rfl rfl ?_
  intro g1 W hW
  refine l_alloc hW tyZ37 rfl rfl rfl ?_
  intro g2 W hW
  refine l_end ?_
  refine n_then ?_
  refine c_seq ?_
  refine c_regY hW [0] [.q, .q, .q, .q, .q, .s] [0, 0, 0, 6, 15, 31] (by kernel_rfl) (by kernel_rfl) ?_
  refine y_loadA 1 tyA37 rfl rfl rfl rfl rfl (by first | rfl | exact kc_len _ | exact kcf_len _ | (simp; done)) (by decide) ?_
  refine y_val (r_move (v := .int _ _) rfl rfl) rfl rfl ?_
  refine y_val (r_move (v := .int _ _) rfl rfl) rfl rfl ?_
  refine y_call (g_rBlock _ 0 _ (by decide)) en97 rfl rfl rfl rfl ?_
  refine y_call (g_rEncrypt _ _) en61 rfl rfl rfl rfl ?_
  refine y_storeA 0 tyA37 rfl rfl rfl rfl rfl rfl (by first | rfl | exact kc_len _ | exact kcf_len _ | (simp; done)) (by first | rfl | exact kc_len _ | exact kcf_len _ | (simp; done)) (by first | exact kc_one _ | exact kcf_one _ | (simp [Value.oneCell']; done)) (by decide) ?_
  refine y_end ?_
  intro W hW
  refine n_then ?_
  refine c_ret ?_
  refine ret_cell hW 0 tyA37 rfl rfl rfl (by first | rfl | exact kc_len _ | exact kcf_len _ | (simp; done)) ?_
  exact ⟨rfl, hW.below⟩

set_option maxRecDepth 10000 in
/-- headend/cipher.Number -/
theorem g_Number (k : Kw) (n most : W64) : Gives Try.prog 70 [keyV k, U64 n, U64 most].toArray (U64 (number k n most)) := by
  refine gives_of Try.func70 rfl (bs := [keyV k, U64 n, U64 most, undef, undef, undef, undef, undef, undef, undef, undef, undef, undef, undef, undef, undef]) rfl ?_
  intro w hW
  refine c_seq ?_
  refine c_reg ?_
  refine l_box hW rfl rfl rfl rfl ?_
  intro g1 W hW
  refine l_val (r_assign (v := .int _ _) rfl rfl) rfl rfl ?_
  refine l_end ?_
  refine n_then ?_
  refine c_seq ?_
  refine c_seq ?_
  refine c_reg ?_
  refine l_val (r_move (v := .int _ _) rfl rfl) rfl rfl ?_
  refine l_val (r_eql_u64 (y := 0#64) rfl rfl rfl rfl) rfl rfl ?_
  refine l_split ?_ ?_
  · intro hc1
    replace hc1 := of_decide_eq_true hc1
    refine l_end ?_
    refine n_then ?_
    refine c_true rfl ?_
    refine c_seq ?_
    refine c_reg ?_
    refine l_val (r_assign (v := .int _ _) rfl rfl) rfl rfl ?_
    refine l_end ?_
    refine n_then ?_
    refine c_ret ?_
    refine r_then ?_
    refine ret_tmp (v := U64 (number k n most)) rfl ?_ ⟨rfl, hW.below⟩
    rw [number, if_pos hc1]; rfl
  · intro hc1
    replace hc1 := of_decide_eq_false hc1
    refine l_end ?_
    refine n_then ?_
    refine c_false rfl ?_
    refine c_skip ?_
    refine n_then ?_
    refine c_seq ?_
    refine c_reg ?_
    refine l_loadA hW 0 tyA37 rfl rfl rfl rfl rfl (by first | rfl | exact kc_len _ | exact kcf_len _ | (simp; done)) ?_
    refine l_val (r_move (v := .int _ _) rfl rfl) rfl rfl ?_
    refine l_call hW (g_Derive _ 3 _) en59 rfl rfl rfl rfl ?_
    intro W hW
    refine l_call hW (g_wordsOf _) en86 rfl rfl rfl rfl ?_
    intro W hW
    refine l_val (r_fieldC Try.underlying149 rfl tyC22 rfl rfl rfl) rfl rfl ?_
    refine l_val (r_move (v := .int _ _) rfl rfl) rfl rfl ?_
    refine l_val (r_rem_u64 rfl rfl rfl hc1) rfl rfl ?_
    refine l_val (r_assign (v := .int _ _) rfl rfl) rfl rfl ?_
    refine l_end ?_
    refine n_then ?_
    refine c_ret ?_
    refine ret_tmp (v := U64 (number k n most)) rfl ?_ ⟨rfl, hW.below⟩
    rw [number, if_neg hc1]; rfl

set_option maxRecDepth 10000 in
/-- headend/headendref02.Number -/
theorem g_rNumber (k : Kw) (n most : W64) : Gives Try.prog 76 [keyV k, U64 n, U64 most].toArray (U64 (number k n most)) := by
  refine gives_of Try.func76 rfl (bs := [keyV k, U64 n, U64 most, undef, undef, undef, undef, undef, undef, undef, undef, undef, undef, undef, undef, undef, undef]) rfl ?_
  intro w hW
  refine c_seq ?_
  refine c_reg ?_
  refine l_box hW rfl rfl rfl rfl ?_
  intro g1 W hW
  refine l_val (r_assign (v := .int _ _) rfl rfl) rfl rfl ?_
  refine l_end ?_
  refine n_then ?_
  refine c_seq ?_
  refine c_seq ?_
  refine c_reg ?_
  refine l_val (r_move (v := .int _ _) rfl rfl) rfl rfl ?_
  refine l_val (r_eql_u64 (y := 0#64) rfl rfl rfl rfl) rfl rfl ?_
  refine l_split ?_ ?_
  · intro hc1
    replace hc1 := of_decide_eq_true hc1
    refine l_end ?_
    refine n_then ?_
    refine c_true rfl ?_
    refine c_seq ?_
    refine c_reg ?_
    refine l_val (r_assign (v := .int _ _) rfl rfl) rfl rfl ?_
    refine l_end ?_
    refine n_then ?_
    refine c_ret ?_
    refine r_then ?_
    refine ret_tmp (v := U64 (number k n most)) rfl ?_ ⟨rfl, hW.below⟩
    rw [number, if_pos hc1]; rfl
  · intro hc1
    replace hc1 := of_decide_eq_false hc1
    refine l_end ?_
    refine n_then ?_
    refine c_false rfl ?_
    refine c_skip ?_
    refine n_then ?_
    refine c_seq ?_
    refine c_reg ?_
    refine l_loadA hW 0 tyA37 rfl rfl rfl rfl rfl (by first | rfl | exact kc_len _ | exact kcf_len _ | (simp; done)) ?_
    refine l_val (r_move (v := .int _ _) rfl rfl) rfl rfl ?_
    refine l_call hW (g_rDerive _ 3 _) en63 rfl rfl rfl rfl ?_
    intro W hW
    refine l_alloc hW tyZ37 rfl rfl rfl ?_
    intro g2 W hW
    refine l_storeA hW 0 tyA37 rfl rfl rfl rfl rfl rfl (by first | rfl | exact kc_len _ | exact kcf_len _ | (simp; done)) (by first | rfl | exact kc_len _ | exact kcf_len _ | (simp; done)) (by first | exact kc_one _ | exact kcf_one _ | (simp [Value.oneCell']; done)) ?_
    intro W hW
    refine l_end ?_
    refine n_then ?_
    refine c_seq ?_
    refine c_reg ?_
    refine l_val (r_sliceArrTo (h := 8) Try.underlying37 tyC5.size rfl rfl rfl (by omega)) rfl rfl ?_
    refine l_callR hW (g_Value _ 0 8 16 (byt (derive k 3 n)) (by decide)) en110 (fun j hj => by rw [cell_at (hW.at 0 rfl)]; simpa using kc_get _ j (by omega)) rfl rfl rfl rfl ?_
    intro W hW
    refine l_val (r_move (v := .int _ _) rfl rfl) rfl rfl ?_
    refine l_val (r_rem_u64 rfl rfl rfl hc1) rfl rfl ?_
    refine l_val (r_assign (v := .int _ _) rfl rfl) rfl rfl ?_
    refine l_end ?_
    refine n_then ?_
    refine c_ret ?_
    refine ret_tmp (v := U64 (number k n most)) rfl ?_ ⟨rfl, hW.below⟩
    rw [number, if_neg hc1, valTo_hi]; rfl

end Go.Proofs.Ytoegpalacppllaa
