/- Encryption of package cipher. -/
import Derived.Test.YtoegpalacppllaaFacts
import Derived.Test.YtoegpalacppllaaVals
import Derived.Test.YtoegpalacppllaaC6
namespace Go.Proofs.Ytoegpalacppllaa
open Go.RowKit Pl

set_option maxRecDepth 10000 in
/-- headend/cipher.Encrypt -/
theorem g_Encrypt (k b : Kw) : Gives Try.prog 58 [keyV k, keyV b].toArray (keyV (enc k b)) := by
  refine givesM_of Try.func58 rfl (bs := [keyV k, keyV b, undef, undef, undef, undef, undef, undef, undef, undef, undef, undef, undef, undef, undef, undef, undef, undef, undef]) rfl ?_
  intro w hW
  refine c_seq ?_
  refine c_reg ?_
  refine l_box hW rfl rfl rfl rfl ?_
  intro g1 W hW
  refine l_box hW rfl rfl rfl rfl ?_
  intro g2 W hW
  refine l_alloc hW tyZ37 rfl rfl rfl ?_
  intro g3 W hW
  refine l_end ?_
  refine n_then ?_
  refine c_seq ?_
  refine c_reg ?_
  refine l_loadA hW 1 tyA37 rfl rfl rfl rfl rfl (by first | rfl | exact kc_len _ | exact kcf_len _ | (simp; done)) ?_
  refine l_call hW (g_wordsOf _) en86 rfl rfl rfl rfl ?_
  intro W hW
  refine l_alloc hW tyZ149 rfl rfl rfl ?_
  intro g4 W hW
  refine l_storeA hW 0 tyA149 rfl rfl rfl rfl rfl rfl (by first | rfl | exact kc_len _ | exact kcf_len _ | (simp; done)) (by first | rfl | exact kc_len _ | exact kcf_len _ | (simp; done)) (by first | exact kc_one _ | exact kcf_one _ | (simp [Value.oneCell']; done)) ?_
  intro W hW
  refine l_end ?_
  refine n_then ?_
  refine c_seq ?_
  refine c_seq ?_
  refine c_reg ?_
  refine l_loadA hW 3 tyA37 rfl rfl rfl rfl rfl (by first | rfl | exact kc_len _ | exact kcf_len _ | (simp; done)) ?_
  refine l_callX hW (g_keys k) en87 trivial rfl rfl rfl rfl ?_
  rintro _ Bs1 W ⟨gk, rfl, rfl⟩ hW
  replace hW := hW.perm List.perm_append_comm
  refine l_end ?_
  refine n_then ?_
  refine c_block ?_
  refine c_range (i_keys k gk) en120 rfl (fun _ => rfl) (fun (i : Nat) => [⟨g4, [U64 (encTo k b i).1, U64 (encTo k b i).2], 149⟩, ⟨g3, z37, 37⟩, ⟨g2, kc b, 37⟩, ⟨g1, kc k, 37⟩]) hW (fun (i : Nat) => fr [keyV k, keyV b, .pointer (some ⟨g1, 0, none⟩), .pointer (some ⟨g2, 0, none⟩), .pointer (some ⟨g3, 0, none⟩), .pointer (some ⟨g4, 0, none⟩), undef, U64 (rk k i), keyV b, pairV b, keyV k, .func (.func 120) #[] #[.pointer (some ⟨gk, 0, none⟩)], .int .i64 (i : Int), U64 (rk k i), undef, undef, undef, undef, undef] [] []) (fun (i : Nat) => [keyV k, keyV b, .pointer (some ⟨g1, 0, none⟩), .pointer (some ⟨g2, 0, none⟩), .pointer (some ⟨g3, 0, none⟩), .pointer (some ⟨g4, 0, none⟩), undef, undef, keyV b, pairV b, keyV k, .func (.func 120) #[] #[.pointer (some ⟨gk, 0, none⟩)], .int .i64 (i : Int), U64 (rk k i), undef, undef, undef, undef, undef]) (fun _ => by kernel_rfl) ?_ ?_ ?_
  · intro l i W
    refine c_reg ?_
    refine l_val (r_assign (v := .int _ _) rfl rfl) rfl rfl ?_
    refine l_end ?_
    refine n_then ⟨?_, rfl⟩
    exact congrArg (fun x => (fr x [] [] : Act)) (by kernel_rfl)
  · intro l r i L W hi hW
    refine c_block ?_
    refine c_reg ?_
    refine l_loadA hW 1 tyA149 rfl rfl rfl rfl rfl (by first | rfl | exact kc_len _ | exact kcf_len _ | (simp; done)) ?_
    refine l_val (r_move (v := .int _ _) rfl rfl) rfl rfl ?_
    refine l_call hW (g_round _ _ _) en88 rfl rfl rfl rfl ?_
    intro W hW
    refine l_storeA hW 1 tyA149 rfl rfl rfl rfl rfl rfl (by first | rfl | exact kc_len _ | exact kcf_len _ | (simp; done)) (by first | rfl | exact kc_len _ | exact kcf_len _ | (simp; done)) (by first | exact kc_one _ | exact kcf_one _ | (simp [Value.oneCell']; done)) ?_
    intro W hW
    refine l_end ?_
    refine n_block ?_
    exact ⟨rfl, hW⟩
  · intro D r W hDb hW hD
    refine n_block ?_
    refine n_then ?_
    refine c_seq ?_
    refine c_reg ?_
    refine l_loadA hW 1 tyA149 rfl rfl rfl rfl rfl (by first | rfl | exact kc_len _ | exact kcf_len _ | (simp; done)) ?_
    refine l_call hW (g_block _ _) en89 rfl rfl rfl rfl ?_
    intro W hW
    refine l_storeA hW 2 tyA37 rfl rfl rfl rfl rfl rfl (by first | rfl | exact kc_len _ | exact kcf_len _ | (simp; done)) (by first | rfl | exact kc_len _ | exact kcf_len _ | (simp; done)) (by first | exact kc_one _ | exact kcf_one _ | (simp [Value.oneCell']; done)) ?_
    intro W hW
    refine l_end ?_
    refine n_then ?_
    refine c_ret ?_
    refine r_mark hW hDb hD ?_
    intro r W hW
    refine ret_cell hW 2 tyA37 rfl rfl rfl (by first | rfl | exact kc_len _ | exact kcf_len _ | (simp; done)) ?_
    exact ⟨rfl, hW.below⟩

end Go.Proofs.Ytoegpalacppllaa
