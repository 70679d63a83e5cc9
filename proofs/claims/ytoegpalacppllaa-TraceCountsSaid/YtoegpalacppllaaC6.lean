/- Round keys of package cipher, yielded. -/
import Derived.Test.YtoegpalacppllaaFacts
import Derived.Test.YtoegpalacppllaaVals
import Derived.Test.YtoegpalacppllaaC5
import Derived.Test.YtoegpalacppllaaRange
namespace Go.Proofs.Ytoegpalacppllaa
open Go.RowKit Pl

set_option maxRecDepth 10000 in
/-- headend/cipher.keys -/
theorem g_keys (k : Kw) : GivesX Try.prog 87 [keyV k].toArray (fun _ => True) (fun v Bs => ∃ g, v = .func (.func 120) #[] #[.pointer (some ⟨g, 0, none⟩)] ∧ Bs = [⟨g, kc k, 37⟩]) := by
  refine givesX_of Try.func87 rfl (bs := [keyV k, undef, undef, undef]) rfl ?_
  intro w hP hW
  refine c_seq ?_
  refine c_reg ?_
  refine l_box hW rfl rfl rfl rfl ?_
  intro g1 W hW
  refine l_val (r_assign (v := .nilFunc) rfl rfl) rfl rfl ?_
  refine l_end ?_
  refine n_then ?_
  refine c_seq ?_
  refine c_reg ?_
  refine l_val (r_closure (vs := [.pointer (some ⟨g1, 0, none⟩)]) rfl rfl) rfl rfl ?_
  refine l_val (r_assign (v := .func _ _ _) rfl rfl) rfl rfl ?_
  refine l_end ?_
  refine n_then ?_
  refine c_ret ?_
  refine ret_tmp (v := .func _ _ _) rfl rfl ?_
  exact ⟨_, _, rfl, ⟨_, rfl, rfl⟩, hW⟩

set_option maxRecDepth 10000 in
/-- headend/cipher.keys$1 -/
theorem i_keys (k : Kw) (g : Nat) : Iter Try.prog 120 #[.pointer (some ⟨g, 0, none⟩)] 32 (fun i => #[.int .i64 (i : Int), U64 (rk k i)]) [⟨g, kc k, 37⟩] := by
  refine iter_of (lb := [.pointer (some ⟨g, 0, none⟩)]) (F := fun l => [.func (.yield l) #[] #[], .pointer (some ⟨g, 0, none⟩), undef, undef, undef, undef, undef, undef, undef, undef, undef, undef, undef, undef, undef, undef, undef, undef, undef, undef, undef]) Try.func120 rfl (fun l => rfl) ?_
  intro b l Lc W hY hW
  refine c_seq ?_
  refine c_reg ?_
  refine l_loadA hW 0 tyA37 rfl rfl rfl rfl rfl (by first | rfl | exact kc_len _ | exact kcf_len _ | (simp; done)) ?_
  refine l_call hW (g_wordsOf _) en86 rfl rfl rfl rfl ?_
  intro W hW
  refine l_alloc hW tyZ149 rfl rfl rfl ?_
  intro g1 W hW
  refine l_storeA hW 0 tyA149 rfl rfl rfl rfl rfl rfl (by first | rfl | exact kc_len _ | exact kcf_len _ | (simp; done)) (by first | rfl | exact kc_len _ | exact kcf_len _ | (simp; done)) (by first | exact kc_one _ | exact kcf_one _ | (simp [Value.oneCell']; done)) ?_
  intro W hW
  refine l_end ?_
  refine n_then ?_
  refine c_seq ?_
  refine c_reg ?_
  refine l_val (r_move (v := .int _ _) rfl rfl) rfl rfl ?_
  refine l_end ?_
  refine n_then ?_
  refine c_block ?_
  refine c_loop (fun (i : Nat) (j : Nat → Value) => [.func (.yield l) #[] #[], .pointer (some ⟨g, 0, none⟩), j 2, .pointer (some ⟨g1, 0, none⟩), j 4, j 5, j 6, .int .i64 (i : Int), j 8, j 9, j 10, j 11, j 12, j 13, j 14, j 15, j 16, j 17, j 18, j 19, j 20]) (fun (i : Nat) => [⟨g1, [U64 (kst k i).1, U64 (kst k i).2], 149⟩] ++ ([⟨g, kc k, 37⟩] ++ Lc i)) (fun (i : Nat) => i ≤ 32) (fun (i : Nat) => 32 - i) 0 (by kernel_rfl) hW (by omega) ?_
  intro i j W hx hW
  rcases Nat.lt_or_ge i 32 with h8 | h8
  · skip
    refine c_seq ?_
    refine c_reg ?_
    refine l_val (r_lssN (b := true) (n := 32) rfl rfl rfl (decide_eq_true (by omega))) rfl rfl ?_
    refine l_end ?_
    refine n_then ?_
    refine c_seq ?_
    refine c_true rfl ?_
    refine c_skip ?_
    refine n_then ?_
    refine c_seq ?_
    refine c_block ?_
    refine c_seq ?_
    refine c_reg ?_
    refine l_val (r_move (v := .int _ _) rfl rfl) rfl rfl ?_
    refine l_val (r_assign (v := .int _ _) rfl rfl) rfl rfl ?_
    refine l_end ?_
    refine n_then ?_
    refine c_seq ?_
    refine c_seq ?_
    refine c_reg ?_
    refine l_val (r_move (v := .func _ _ _) rfl rfl) rfl rfl ?_
    refine l_val (r_move (v := .int _ _) rfl rfl) rfl rfl ?_
    refine l_val (r_fieldAddr 1 Try.underlying149 rfl tyC22.size rfl rfl rfl) rfl rfl ?_
    refine l_loadC hW 0 tyC22 rfl rfl rfl rfl rfl rfl ?_
    refine l_yield (hY i [_] W (by omega) hW) rfl rfl rfl rfl rfl ?_
    intro W hW
    refine l_val (r_not rfl rfl) rfl rfl ?_
    refine l_end ?_
    refine n_then ?_
    refine c_false rfl ?_
    refine c_skip ?_
    refine n_then ?_
    refine c_reg ?_
    refine l_loadA hW 0 tyA149 rfl rfl rfl rfl rfl (by first | rfl | exact kc_len _ | exact kcf_len _ | (simp; done)) ?_
    refine l_val (r_move (v := .int _ _) rfl rfl) rfl rfl ?_
    refine l_val (r_conv_i64_u64 Try.underlying3 Try.underlying22 rfl rfl) rfl rfl ?_
    refine l_call hW (g_round _ _ _) en88 rfl rfl rfl rfl ?_
    intro W hW
    refine l_storeA hW 0 tyA149 rfl rfl rfl rfl rfl rfl (by first | rfl | exact kc_len _ | exact kcf_len _ | (simp; done)) (by first | rfl | exact kc_len _ | exact kcf_len _ | (simp; done)) (by first | exact kc_one _ | exact kcf_one _ | (simp [Value.oneCell']; done)) ?_
    intro W hW
    refine l_end ?_
    refine n_block ?_
    refine n_then ?_
    refine c_reg ?_
    refine l_val (r_addN (n := 1) rfl rfl rfl (by omega)) rfl rfl ?_
    refine l_val (r_move (v := .int _ _) rfl rfl) rfl rfl ?_
    refine l_end ?_
    refine n_then ?_
    exact loop_next (i + 1) (by kernel_rfl) hW (by omega) (by omega)
  · skip
    obtain rfl : 32 = i := by omega
    refine c_seq ?_
    refine c_reg ?_
    refine l_val (r_lssN (b := false) (n := 32) rfl rfl rfl (decide_eq_false (by omega))) rfl rfl ?_
    refine l_end ?_
    refine n_then ?_
    refine c_seq ?_
    refine c_false rfl ?_
    refine c_exit ?_
    refine x_then ?_
    refine x_then ?_
    refine x_hit ?_
    refine postM_of ?_
    refine end_none rfl ?_
    exact ⟨⟨_, rfl⟩, hW.drop 1⟩

end Go.Proofs.Ytoegpalacppllaa
