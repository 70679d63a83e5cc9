/- Portions, and what goes through them. -/
import Derived.Test.YtlabfinhdidmaaaFacts
import Derived.Test.YtlabfinhdidmaaaVals
import Derived.Test.YtlabfinhdidmaaaC10
import Derived.Test.YtlabfinhdidmaaaVals2
namespace Go.Proofs.Ytlabfinhdidmaaa
open Go.RowKit Pl

set_option maxRecDepth 10000 in
/-- headend/headendref02.portions -/
theorem g_portions (a : Option Addr) (n c : Nat) (hmax : n ≤ 4294967296) : Gives Try.prog 56 [.slice a n c].toArray (.int .i64 (nport n : Int)) := by
  refine gives_of Try.func56 rfl (bs := [.slice a n c, undef, undef, undef, undef, undef, undef]) rfl ?_
  intro w hW
  refine c_seq ?_
  refine c_reg ?_
  refine l_val (r_assign (v := .int _ _) rfl rfl) rfl rfl ?_
  refine l_end ?_
  refine n_then ?_
  refine c_seq ?_
  refine c_reg ?_
  refine l_val (r_move (v := .slice _ _ _) rfl rfl) rfl rfl ?_
  refine l_val (r_lenSlice Try.underlying37 rfl rfl) rfl rfl ?_
  refine l_val (r_addN (n := 15) rfl rfl rfl (by omega)) rfl rfl ?_
  refine l_val (r_quoN (n := 16) rfl rfl rfl (by omega) (by omega)) rfl rfl ?_
  refine l_val (r_assign (v := .int _ _) rfl rfl) rfl rfl ?_
  refine l_end ?_
  refine n_then ?_
  refine c_ret ?_
  refine ret_tmp (v := .int .i64 (nport n : Int)) rfl ?_ ⟨rfl, hW.below⟩
  rfl

set_option maxRecDepth 10000 in
/-- headend/headendref02.portion -/
theorem g_portion (a : Option Addr) (n c : Nat) (l : Bs8) (hl : l.length = n) (hmax : n ≤ 4294967296) (i : Nat) (hi : 16 * i < n) (hc : n ≤ c) : GivesR Try.prog 58 [.slice a n c, .int .i64 (i : Int)].toArray (fun w => Rd w a (bl l)) (keyV (portion l i)) := by
  refine givesR_of Try.func58 rfl (bs := [.slice a n c, .int .i64 (i : Int), undef, undef, undef, undef, undef, undef, undef, undef]) rfl ?_
  intro w hP hW
  obtain ⟨b0, o0, rfl⟩ := rd_ptr hP (by omega)
  refine c_seq ?_
  refine c_reg ?_
  refine l_alloc hW tyZ23 rfl rfl rfl ?_
  intro g1 W hW
  refine l_end ?_
  refine n_then ?_
  refine c_seq ?_
  refine c_reg ?_
  refine l_val (r_move (v := .slice _ _ _) rfl rfl) rfl rfl ?_
  refine l_val (r_move (v := .int _ _) rfl rfl) rfl rfl ?_
  refine l_val (r_mulN (m := 16) (n := i) rfl rfl rfl (by omega)) rfl rfl ?_
  refine l_val (r_sliceSlMid (l := 16 * i) Try.underlying37 tyC5.size rfl rfl rfl (by omega) (by omega)) rfl rfl ?_
  subst hl
  refine l_callR hW (g_key b0 (o0 + 16 * i) (l.length - 16 * i) (c - 16 * i) (fun j => gb l (16 * i + j)) (by omega)) en67 (fun j hj => by
    have := cell_past hW.below (rd_cell hP (j := 16 * i + j) (by omega))
    rw [← this]; congr 2; omega) rfl rfl rfl rfl ?_
  rw [upto_portion l i hi]
  intro W hW
  refine l_storeA hW 0 tyA23 rfl rfl rfl rfl rfl rfl (by first | rfl | exact kc_len _ | exact kcf_len _ | (simp; done)) (by first | rfl | exact kc_len _ | exact kcf_len _ | (simp; done)) (by first | exact kc_one _ | exact kcf_one _ | (simp [Value.oneCell']; done)) ?_
  intro W hW
  refine l_end ?_
  refine n_then ?_
  refine c_ret ?_
  refine ret_cell hW 0 tyA23 rfl rfl rfl (by first | rfl | exact kc_len _ | exact kcf_len _ | (simp; done)) ?_
  exact ⟨rfl, hW.below⟩

set_option maxRecDepth 10000 in
/-- headend/cipher.fold -/
theorem g_fold (s : Kw) (a : Option Addr) (n c : Nat) (l : Bs8) (hl : l.length = n) (hmax : n ≤ 4294967296) (hc : n ≤ c) (fid : Nat) (cap : List Value) (PreC : World → Prop) (step : Kw → Kw → Kw) (hn : ∀ s p, GivesR Try.prog fid ([keyV s, keyV p] ++ cap).toArray PreC (keyV (step s p))) (hen : Enters Try.prog fid) (hst : ∀ w W : World, Below w.heap.size w W → PreC w → PreC W) : GivesR Try.prog 59 [keyV s, .slice a n c, .func (.func fid) #[] cap.toArray].toArray (fun w => Rd w a (bl l) ∧ PreC w) (keyV (foldK step s l)) := by
  refine givesR_of Try.func59 rfl (bs := [keyV s, .slice a n c, .func (.func fid) #[] cap.toArray, undef, undef, undef, undef, undef, undef, undef, undef, undef, undef, undef, undef, undef, undef, undef, undef, undef, undef]) rfl ?_
  intro w hP hW
  refine c_seq ?_
  refine c_reg ?_
  refine l_box hW rfl rfl rfl rfl ?_
  intro g1 W hW
  refine l_alloc hW tyZ23 rfl rfl rfl ?_
  intro g2 W hW
  refine l_end ?_
  refine n_then ?_
  refine c_seq ?_
  refine c_block ?_
  refine c_loop (fun (x : Nat × Option Addr × Nat × Nat) (j : Nat → Value) => [keyV s, .slice x.2.1 x.2.2.1 x.2.2.2, .func (.func fid) #[] cap.toArray, .pointer (some ⟨g1, 0, none⟩), j 4, j 5, .pointer (some ⟨g2, 0, none⟩), j 7, j 8, j 9, j 10, j 11, j 12, j 13, j 14, j 15, j 16, j 17, j 18, j 19, j 20]) (fun (x : Nat × Option Addr × Nat × Nat) => [⟨g2, z23, 23⟩, ⟨g1, kc (foldTo step s l x.1), 23⟩]) (fun (x : Nat × Option Addr × Nat × Nat) => x.1 ≤ nport n ∧ Rd w x.2.1 (bl (l.drop (16 * x.1))) ∧ x.2.2.1 = n - 16 * x.1 ∧ x.2.2.1 ≤ x.2.2.2) (fun (x : Nat × Option Addr × Nat × Nat) => nport n - x.1) (0, a, n, c) (by kernel_rfl) hW ⟨Nat.zero_le _, by simpa using hP.1, rfl, hc⟩ ?_
  intro x j W hx hW
  obtain ⟨hi, hrd, hlen, hcap⟩ := hx
  refine c_seq ?_
  refine c_seq ?_
  refine c_reg ?_
  refine l_val (r_move (v := .slice _ _ _) rfl rfl) rfl rfl ?_
  refine l_val (r_lenSlice Try.underlying37 rfl rfl) rfl rfl ?_
  refine l_val (r_gtrN (n := 0) rfl rfl rfl rfl) rfl rfl ?_
  refine l_split ?_ ?_
  · intro hc1
    replace hc1 := of_decide_eq_true hc1
    obtain ⟨b0, o0, ha⟩ := rd_ptr hrd (by rw [List.length_drop]; omega)
    have hnext := rd_step (ha ▸ hrd) (j := min x.2.2.1 16) (c := x.2.2.2) (by omega) (by omega)
    refine l_end ?_
    refine n_then ?_
    refine c_true rfl ?_
    refine c_skip ?_
    refine n_then ?_
    refine c_block ?_
    refine c_seq ?_
    refine c_reg ?_
    refine l_alloc hW tyZ23 rfl rfl rfl ?_
    intro g3 W hW
    refine l_end ?_
    refine n_then ?_
    refine c_seq ?_
    refine c_reg ?_
    refine l_val (r_move (v := .slice _ _ _) rfl rfl) rfl rfl ?_
    refine l_val (r_sliceArrAll Try.underlying23 tyC5.size rfl rfl) rfl rfl ?_
    refine l_val (r_move (v := .slice _ _ _) rfl rfl) rfl rfl ?_
    refine l_copy hW 0 tyE37 (news := bl (l.drop (16 * x.1))) rfl rfl rfl rfl rfl rfl (hrd.past hW.below) (by rw [bl_len, List.length_drop]; omega) (fun h => by rw [ha] at h; cases h) (by decide) rfl (bl_one _) ?_
    intro W hW
    replace hW := hW.to (L' := [⟨_, kc (portion l x.1), 23⟩, _, _]) (by rw [← copy_portion (l := l) (i := x.1) (j := min x.2.2.1 16) (by omega)]; rfl)
    refine l_val (r_sliceSlFrom (g := b0) (i := o0) (l := min x.2.2.1 16) Try.underlying37 tyC5.size rfl (congrArg (fun q => Value.slice q _ _) ha) rfl (by omega)) rfl rfl ?_
    refine l_val (r_assign (v := .slice _ _ _) rfl rfl) rfl rfl ?_
    refine l_end ?_
    refine n_then ?_
    refine c_reg ?_
    refine l_val (r_move (v := .func _ _ _) rfl rfl) rfl rfl ?_
    refine l_loadA hW 2 tyA23 rfl rfl rfl rfl rfl (by first | rfl | exact kc_len _ | exact kcf_len _ | (simp; done)) ?_
    refine l_loadA hW 0 tyA23 rfl rfl rfl rfl rfl (by first | rfl | exact kc_len _ | exact kcf_len _ | (simp; done)) ?_
    refine l_callVR hW (hn _ _) hen (hst _ _ hW.below hP.2) rfl rfl rfl rfl rfl ?_
    intro W hW
    refine l_storeA hW 2 tyA23 rfl rfl rfl rfl rfl rfl (by first | rfl | exact kc_len _ | exact kcf_len _ | (simp; done)) (by first | rfl | exact kc_len _ | exact kcf_len _ | (simp; done)) (by first | exact kc_one _ | exact kcf_one _ | (simp [Value.oneCell']; done)) ?_
    intro W hW
    refine l_end ?_
    refine n_block ?_
    refine n_then ?_
    exact loop_next (x.1 + 1, some ⟨b0, if x.2.2.2 = min x.2.2.1 16 then o0 else o0 + min x.2.2.1 16, none⟩, x.2.2.1 - min x.2.2.1 16, x.2.2.2 - min x.2.2.1 16) (by kernel_rfl) (hW.drop 1) ⟨by simp only [nport] at hi ⊢; omega, hnext, by simp only; omega, by simp only; omega⟩ (by simp only [nport] at hi ⊢; omega)
  · intro hc1
    replace hc1 := of_decide_eq_false hc1
    have e : x.1 = nport n := by simp only [nport] at hi ⊢; omega
    rw [e] at hW
    refine l_end ?_
    refine n_then ?_
    refine c_false rfl ?_
    refine c_exit ?_
    refine x_then ?_
    refine x_then ?_
    refine x_hit ?_
    refine n_then ?_
    refine c_seq ?_
    refine c_reg ?_
    refine l_loadA hW 1 tyA23 rfl rfl rfl rfl rfl (by first | rfl | exact kc_len _ | exact kcf_len _ | (simp; done)) ?_
    refine l_storeA hW 0 tyA23 rfl rfl rfl rfl rfl rfl (by first | rfl | exact kc_len _ | exact kcf_len _ | (simp; done)) (by first | rfl | exact kc_len _ | exact kcf_len _ | (simp; done)) (by first | exact kc_one _ | exact kcf_one _ | (simp [Value.oneCell']; done)) ?_
    intro W hW
    refine l_end ?_
    refine n_then ?_
    refine c_ret ?_
    refine ret_cell hW 0 tyA23 rfl rfl rfl (by first | rfl | exact kc_len _ | exact kcf_len _ | (simp; done)) ?_
    subst hl
    exact ⟨rfl, hW.below⟩

set_option maxRecDepth 10000 in
/-- headend/cipher.Mac$1 -/
theorem g_Mac1 (k s p : Kw) (g : Nat) : GivesR Try.prog 60 [keyV s, keyV p, .pointer (some ⟨g, 0, none⟩)].toArray (fun w => w.heap[g]? = some (.cells (kc k).toArray 23 (0, 0))) (keyV (macStep k s p)) := by
  refine givesR_of Try.func60 rfl (bs := [keyV s, keyV p, .pointer (some ⟨g, 0, none⟩), undef, undef, undef, undef, undef, undef, undef, undef]) rfl ?_
  intro w hP hW
  refine c_seq ?_
  refine c_reg ?_
  refine l_box hW rfl rfl rfl rfl ?_
  intro g1 W hW
  refine l_box hW rfl rfl rfl rfl ?_
  intro g2 W hW
  refine l_alloc hW tyZ23 rfl rfl rfl ?_
  intro g3 W hW
  refine l_end ?_
  refine n_then ?_
  refine c_seq ?_
  refine c_regY hW [0] [.q, .q, .q, .q, .q, .s] [0, 0, 0, 6, 15, 31] (by kernel_rfl) (by kernel_rfl) ?_
  refine y_loadFA tyA23 hP (kc_len k) rfl rfl rfl rfl ?_
  refine y_loadA 2 tyA23 rfl rfl rfl rfl rfl (by first | rfl | exact kc_len _ | exact kcf_len _ | (simp; done)) (by decide) ?_
  refine y_loadA 1 tyA23 rfl rfl rfl rfl rfl (by first | rfl | exact kc_len _ | exact kcf_len _ | (simp; done)) (by decide) ?_
  refine y_call (g_xor _ _) en61 rfl rfl rfl rfl ?_
  refine y_call (g_Encrypt _ _) en27 rfl rfl rfl rfl ?_
  refine y_storeA 0 tyA23 rfl rfl rfl rfl rfl rfl (by first | rfl | exact kc_len _ | exact kcf_len _ | (simp; done)) (by first | rfl | exact kc_len _ | exact kcf_len _ | (simp; done)) (by first | exact kc_one _ | exact kcf_one _ | (simp [Value.oneCell']; done)) (by decide) ?_
  refine y_end ?_
  intro W hW
  refine n_then ?_
  refine c_ret ?_
  refine ret_cell hW 0 tyA23 rfl rfl rfl (by first | rfl | exact kc_len _ | exact kcf_len _ | (simp; done)) ?_
  exact ⟨rfl, hW.below⟩

set_option maxRecDepth 10000 in
/-- headend/cipher.Hash$1 -/
theorem g_Hash1 (s p : Kw) : Gives Try.prog 63 [keyV s, keyV p].toArray (keyV (hashStep s p)) := by
  refine gives_of Try.func63 rfl (bs := [keyV s, keyV p, undef, undef, undef, undef, undef, undef, undef, undef]) rfl ?_
  intro w hW
  refine c_seq ?_
  refine c_reg ?_
  refine l_box hW rfl rfl rfl rfl ?_
  intro g1 W hW
  refine l_box hW rfl rfl rfl rfl ?_
  intro g2 W hW
  refine l_alloc hW tyZ23 rfl rfl rfl ?_
  intro g3 W hW
  refine l_end ?_
  refine n_then ?_
  refine c_seq ?_
  refine c_regY hW [0] [.q, .q, .q, .q, .q, .s] [0, 0, 3, 0, 15, 31] (by kernel_rfl) (by kernel_rfl) ?_
  refine y_loadA 1 tyA23 rfl rfl rfl rfl rfl (by first | rfl | exact kc_len _ | exact kcf_len _ | (simp; done)) (by decide) ?_
  refine y_loadA 2 tyA23 rfl rfl rfl rfl rfl (by first | rfl | exact kc_len _ | exact kcf_len _ | (simp; done)) (by decide) ?_
  refine y_call (g_Encrypt _ _) en27 rfl rfl rfl rfl ?_
  refine y_loadA 2 tyA23 rfl rfl rfl rfl rfl (by first | rfl | exact kc_len _ | exact kcf_len _ | (simp; done)) (by decide) ?_
  refine y_call (g_xor _ _) en61 rfl rfl rfl rfl ?_
  refine y_storeA 0 tyA23 rfl rfl rfl rfl rfl rfl (by first | rfl | exact kc_len _ | exact kcf_len _ | (simp; done)) (by first | rfl | exact kc_len _ | exact kcf_len _ | (simp; done)) (by first | exact kc_one _ | exact kcf_one _ | (simp [Value.oneCell']; done)) (by decide) ?_
  refine y_end ?_
  intro W hW
  refine n_then ?_
  refine c_ret ?_
  refine ret_cell hW 0 tyA23 rfl rfl rfl (by first | rfl | exact kc_len _ | exact kcf_len _ | (simp; done)) ?_
  exact ⟨rfl, hW.below⟩

end Go.Proofs.Ytlabfinhdidmaaa
