/- Law of examples. -/
import Derived.Test.YtlabfinhdidmaaaFacts
import Derived.Test.YtlabfinhdidmaaaVals
import Derived.Test.YtlabfinhdidmaaaC22
import Derived.Test.YtlabfinhdidmaaaOrder
import Derived.Test.YtlabfinhdidmaaaVals6
namespace Go.Proofs.Ytlabfinhdidmaaa
open Go.RowKit Pl

set_option maxRecDepth 10000 in
/-- headend/headendlaw02.CipherExamples -/
theorem g_CipherExamplesE {k b c : Kw} (hE : Known k b c) : Gives Try.prog 18 [].toArray (.bool true) := by
  refine gives_of Try.func18 rfl (bs := [undef, undef, undef, undef, undef, undef, undef, undef, undef, undef, undef, undef, undef, undef, undef, undef, undef, undef, undef, undef, undef, undef, undef, undef, undef, undef, undef, undef, undef, undef, undef, undef, undef, undef, undef, undef, undef, undef, undef, undef, undef, undef, undef, undef, undef, undef, undef, undef, undef, undef, undef, undef, undef, undef, undef, undef, undef, undef, undef, undef, undef, undef, undef, undef, undef, undef, undef, undef, undef, undef, undef, undef, undef, undef, undef, undef, undef, undef, undef, undef, undef, undef, undef, undef, undef, undef, undef, undef, undef, undef, undef, undef, undef, undef, undef, undef, undef, undef, undef, undef, undef, undef, undef, undef, undef, undef, undef, undef, undef, undef, undef, undef, undef, undef, undef, undef, undef, undef, undef, undef, undef, undef]) rfl ?_
  intro w hW
  refine c_seq ?_
  refine c_reg ?_
  refine l_val (r_assign (v := .bool _) rfl rfl) rfl rfl ?_
  refine l_end ?_
  refine n_then ?_
  refine c_seq ?_
  refine c_reg ?_
  refine l_call hW (g_known hE) en40 rfl rfl rfl rfl ?_
  intro W hW
  refine l_val (r_move (v := .tuple _) rfl rfl) rfl rfl ?_
  refine l_val (r_extract (v := .agg _) rfl rfl rfl) rfl rfl ?_
  refine l_val (r_extract (v := .agg _) rfl rfl rfl) rfl rfl ?_
  refine l_val (r_extract (v := .agg _) rfl rfl rfl) rfl rfl ?_
  refine l_val (r_extract (v := .bool _) rfl rfl rfl) rfl rfl ?_
  refine l_alloc hW tyZ23 rfl rfl rfl ?_
  intro g1 W hW
  refine l_alloc hW tyZ23 rfl rfl rfl ?_
  intro g2 W hW
  refine l_alloc hW tyZ23 rfl rfl rfl ?_
  intro g3 W hW
  refine l_storeA hW 2 tyA23 rfl rfl rfl rfl rfl rfl (by first | rfl | exact kc_len _ | exact kcf_len _ | (simp; done)) (by first | rfl | exact kc_len _ | exact kcf_len _ | (simp; done)) (by first | exact kc_one _ | exact kcf_one _ | (simp [Value.oneCell']; done)) ?_
  intro W hW
  refine l_storeA hW 1 tyA23 rfl rfl rfl rfl rfl rfl (by first | rfl | exact kc_len _ | exact kcf_len _ | (simp; done)) (by first | rfl | exact kc_len _ | exact kcf_len _ | (simp; done)) (by first | exact kc_one _ | exact kcf_one _ | (simp [Value.oneCell']; done)) ?_
  intro W hW
  refine l_storeA hW 0 tyA23 rfl rfl rfl rfl rfl rfl (by first | rfl | exact kc_len _ | exact kcf_len _ | (simp; done)) (by first | rfl | exact kc_len _ | exact kcf_len _ | (simp; done)) (by first | exact kc_one _ | exact kcf_one _ | (simp [Value.oneCell']; done)) ?_
  intro W hW
  refine l_val (r_assign (v := .bool _) rfl rfl) rfl rfl ?_
  refine l_end ?_
  refine n_then ?_
  refine c_seq ?_
  refine c_reg ?_
  refine l_loadA hW 2 tyA23 rfl rfl rfl rfl rfl (by first | rfl | exact kc_len _ | exact kcf_len _ | (simp; done)) ?_
  refine l_callX hW (x_StreamN k 3#64 none 0 0 [] rfl (Nat.le_refl _) (by decide)) en31 (Rd.nil _ _) rfl rfl rfl rfl ?_
  rintro _ _ W ⟨gs, rfl, rfl⟩ hW
  replace hW := hW.perm List.perm_append_comm
  refine l_val (r_move (v := .tuple _) rfl rfl) rfl rfl ?_
  refine l_val (r_extract (v := .slice _ _ _) rfl rfl rfl) rfl rfl ?_
  refine l_val (r_extract (v := .int _ _) rfl rfl rfl) rfl rfl ?_
  refine l_val (r_assign (v := .slice _ _ _) rfl rfl) rfl rfl ?_
  refine l_val (r_assign (v := .int _ _) rfl rfl) rfl rfl ?_
  refine l_end ?_
  refine n_then ?_
  refine c_seq ?_
  refine c_regC hW [] [.q, .mk 0, .tail, .tail, .tail, .tail, .tail, .tail] [⟨30, bslX 5 16385⟩] [List.replicate 16385 (.int .u8 0)] [1] [0, 0, 3, 7, 15, 15, 31, 127] [] [.q, .q, .q, .q, .q, .q, .q, .q] [] [] [] (by kernel_rfl) (by kernel_rfl) rfl rfl (by kernel_rfl) (by kernel_rfl) ?_
  refine y_loadA 3 tyA23 rfl rfl rfl rfl rfl (by first | rfl | exact kc_len _ | exact kcf_len _ | (simp; done)) (by decide) ?_
  refine y_makeSlice 0 tyE37 (z := .int .u8 0) (v := .int .u8 0) (n := 16385) (k := 16385) tyZE37 rfl rfl rfl rfl rfl (by decide) (by decide) (Nat.mul_one _) rfl ?_
  refine y_tail ?_
  refine y_made ?_
  rintro _ _ ⟨gz, rfl, rfl⟩
  refine y_callR (g_StreamBig k 3#64 gz) en31 (fun L2 w hs hC => hs.at hC 0 (by decide) rfl 0 16385 zeros_rd) rfl rfl rfl rfl ?_
  refine y_val (r_move (v := .tuple _) rfl rfl) rfl rfl ?_
  refine y_val (r_extract (v := .slice _ _ _) rfl rfl rfl) rfl rfl ?_
  refine y_val (r_extract (v := .int _ _) rfl rfl rfl) rfl rfl ?_
  refine y_val (r_assign (v := .slice _ _ _) rfl rfl) rfl rfl ?_
  refine y_val (r_assign (v := .int _ _) rfl rfl) rfl rfl ?_
  refine y_end ?_
  intro W hW
  refine n_then ?_
  refine c_seq ?_
  refine c_reg ?_
  refine l_makeSlice hW tyE37 (z := .int .u8 0) (v := .int .u8 0) (n := 16385) (k := 16385) tyZE37 rfl rfl rfl rfl rfl rfl (by decide) (by decide) rfl ?_
  intro gy W hW
  refine l_callR hW (g_HashBig gy) en35 (hW.rd 0 rfl 0 16385 zeros_rd) rfl rfl rfl rfl ?_
  intro W hW
  refine l_val (r_move (v := .tuple _) rfl rfl) rfl rfl ?_
  refine l_val (r_extract (v := .agg _) rfl rfl rfl) rfl rfl ?_
  refine l_val (r_extract (v := .int _ _) rfl rfl rfl) rfl rfl ?_
  refine l_alloc hW tyZ23 rfl rfl rfl ?_
  intro g4 W hW
  refine l_storeA hW 0 tyA23 rfl rfl rfl rfl rfl rfl (by first | rfl | exact kc_len _ | exact kcf_len _ | (simp; done)) (by first | rfl | exact kc_len _ | exact kcf_len _ | (simp; done)) (by first | exact kc_one _ | exact kcf_one _ | (simp [Value.oneCell']; done)) ?_
  intro W hW
  refine l_val (r_assign (v := .int _ _) rfl rfl) rfl rfl ?_
  refine l_end ?_
  refine n_then ?_
  refine c_seq ?_
  refine c_regM hW [] [.q, .mk 0, .rd 0, .q, .q, .q, .mk 1, .st 1, .q] [⟨41, bslX 5 16385⟩, ⟨11, allocX 23 16⟩] [List.replicate 16385 (.int .u8 0), z23] [1, 6] [0, 0, 3, 7, 15, 15, 0, 95, 255] (by kernel_rfl) (by kernel_rfl) rfl (by kernel_rfl) ?_
  refine y_loadA 6 tyA23 rfl rfl rfl rfl rfl (by first | rfl | exact kc_len _ | exact kcf_len _ | (simp; done)) (by decide) ?_
  refine y_makeSlice 0 tyE37 (z := .int .u8 0) (v := .int .u8 0) (n := 16385) (k := 16385) tyZE37 rfl rfl rfl rfl rfl (by decide) (by decide) (Nat.mul_one _) rfl ?_
  refine y_callRd 0 rfl rfl (by rintro u Bs ⟨g, rfl, rfl⟩; exact ⟨_, _, g_MacBig k g, fun M w hC => hC.rd M.length List.getElem?_concat_length 0 16385 zeros_rd, rfl⟩) en33 rfl rfl rfl ?_
  refine y_val (r_move (v := .tuple _) rfl rfl) rfl rfl ?_
  refine y_val (r_extract (v := .agg _) rfl rfl rfl) rfl rfl ?_
  refine y_val (r_extract (v := .int _ _) rfl rfl rfl) rfl rfl ?_
  refine y_alloc 1 tyZ23 rfl rfl rfl rfl ?_
  refine y_stA 1 tyA23 rfl rfl rfl rfl (by first | rfl | exact kc_len _ | exact kcf_len _ | (simp; done)) (by first | exact kc_one _ | exact kcf_one _ | (simp [Value.oneCell']; done)) ?_
  refine y_val (r_assign (v := .int _ _) rfl rfl) rfl rfl ?_
  refine y_end ?_
  refine y_made ?_
  rintro _ _ ⟨gx, rfl, rfl⟩
  refine y_made ?_
  rintro _ _ ⟨g5, rfl, rfl, -⟩
  intro W hW
  refine n_then ?_
  refine c_seq ?_
  refine c_seq ?_
  refine c_reg ?_
  refine l_val (r_move (v := .bool _) rfl rfl) rfl rfl ?_
  refine l_valG (r_move (v := .bool _) rfl rfl) (by kernel_rfl) rfl ?_
  refine l_valG (r_not rfl rfl) (by kernel_rfl) rfl ?_
  refine l_val (r_pick (v := .bool _) rfl rfl rfl) rfl rfl ?_
  refine l_val (r_move (v := .bool _) rfl rfl) rfl rfl ?_
  refine l_callG hW (g_alive) en37 (by kernel_rfl) rfl rfl rfl ?_
  intro W hW
  refine l_valG (r_not rfl rfl) (by kernel_rfl) rfl ?_
  refine l_val (r_pick (v := .bool _) rfl rfl rfl) rfl rfl ?_
  refine l_val (r_move (v := .bool _) rfl rfl) rfl rfl ?_
  refine l_valG (r_move (v := .int _ _) rfl rfl) (by kernel_rfl) rfl ?_
  refine l_valG (r_neqN (b := false) (m := 0) (n := 0) rfl rfl rfl rfl) (by kernel_rfl) rfl ?_
  refine l_val (r_pick (v := .bool _) rfl rfl rfl) rfl rfl ?_
  refine l_val (r_move (v := .bool _) rfl rfl) rfl rfl ?_
  refine l_valG (r_move (v := .slice _ _ _) rfl rfl) (by kernel_rfl) rfl ?_
  refine l_valG (r_lenSlice Try.underlying37 rfl rfl) (by kernel_rfl) rfl ?_
  refine l_valG (r_neqN (b := false) (m := 0) (n := 0) rfl rfl rfl rfl) (by kernel_rfl) rfl ?_
  refine l_val (r_pick (v := .bool _) rfl rfl rfl) rfl rfl ?_
  refine l_val (r_move (v := .bool _) rfl rfl) rfl rfl ?_
  refine l_valG (r_move (v := .int _ _) rfl rfl) (by kernel_rfl) rfl ?_
  refine l_valG (r_neqN (b := false) (m := 4) (n := 4) rfl rfl rfl rfl) (by kernel_rfl) rfl ?_
  refine l_val (r_pick (v := .bool _) rfl rfl rfl) rfl rfl ?_
  refine l_val (r_move (v := .bool _) rfl rfl) rfl rfl ?_
  refine l_valG (r_move (v := .int _ _) rfl rfl) (by kernel_rfl) rfl ?_
  refine l_valG (r_neqN (b := false) (m := 4) (n := 4) rfl rfl rfl rfl) (by kernel_rfl) rfl ?_
  refine l_val (r_pick (v := .bool _) rfl rfl rfl) rfl rfl ?_
  refine l_val (r_move (v := .bool _) rfl rfl) rfl rfl ?_
  refine l_valG (r_move (v := .int _ _) rfl rfl) (by kernel_rfl) rfl ?_
  refine l_valG (r_neqN (b := false) (m := 4) (n := 4) rfl rfl rfl rfl) (by kernel_rfl) rfl ?_
  refine l_val (r_pick (v := .bool _) rfl rfl rfl) rfl rfl ?_
  refine l_end ?_
  refine n_then ?_
  refine c_false rfl ?_
  refine c_skip ?_
  refine n_then ?_
  refine c_seq ?_
  refine c_reg ?_
  refine l_alloc hW tyZ23 rfl rfl rfl ?_
  intro g6 W hW
  refine l_alloc hW tyZ23 rfl rfl rfl ?_
  intro g7 W hW
  refine l_end ?_
  refine n_then ?_
  refine c_seq ?_
  refine c_seq ?_
  refine c_reg ?_
  refine l_val (r_assign (v := .int _ _) rfl rfl) rfl rfl ?_
  refine l_end ?_
  refine n_then ?_
  refine c_block ?_
  refine c_loop (fun (i : Nat) (j : Nat → Value) => [.bool false, .pointer (some ⟨g1, 0, none⟩), .pointer (some ⟨g2, 0, none⟩), .pointer (some ⟨g3, 0, none⟩), .bool true, .slice (some ⟨gs, 0, none⟩) 0 0, j 6, j 7, j 8, .pointer (some ⟨g4, 0, none⟩), j 10, .pointer (some ⟨g5, 0, none⟩), j 12, .pointer (some ⟨g6, 0, none⟩), .pointer (some ⟨g7, 0, none⟩), .int .i64 (i : Int), j 16, j 17, j 18, j 19, j 20, j 21, .bool true, j 23, j 24, j 25, .slice (some ⟨gs, 0, none⟩) 0 0, j 27, j 28, j 29, j 30, j 31, j 32, j 33, j 34, j 35, j 36, j 37, j 38, j 39, j 40, j 41, j 42, j 43, j 44, .bool false, .bool true, .bool false, .bool false, .bool false, .bool true, .bool false, .bool false, .bool false, j 54, .bool false, .bool false, .bool false, .slice (some ⟨gs, 0, none⟩) 0 0, j 59, .bool false, .bool false, .bool false, j 63, .bool false, .bool false, .bool false, j 67, .bool false, .bool false, .bool false, j 71, .bool false, .bool false, j 74, j 75, j 76, j 77, j 78, j 79, j 80, j 81, j 82, j 83, j 84, j 85, j 86, j 87, j 88, j 89, j 90, j 91, j 92, j 93, j 94, j 95, j 96, j 97, j 98, j 99, j 100, j 101, j 102, j 103, j 104, j 105, j 106, j 107, j 108, j 109, j 110, j 111, j 112, j 113, j 114, j 115, j 116, j 117, j 118, j 119, j 120, j 121]) (fun (i : Nat) => [⟨g7, z23, 23⟩, ⟨g6, kcf (upto (fun _ => 0x5a#8) i), 23⟩, ⟨g5, kc (0#64, 0#64), 23⟩, ⟨gx, List.replicate 16385 (.int .u8 0), 5⟩, ⟨g4, kc (0#64, 0#64), 23⟩, ⟨gy, List.replicate 16385 (.int .u8 0), 5⟩, ⟨gz, List.replicate 16385 (.int .u8 0), 5⟩, ⟨gs, bl (stream k 3#64 []), 5⟩, ⟨g3, kc c, 23⟩, ⟨g2, kc b, 23⟩, ⟨g1, kc k, 23⟩]) (fun (i : Nat) => i ≤ 16) (fun (i : Nat) => 16 - i) 0 (by kernel_rfl) (hW.to (by simp only [upto_zero]; rfl)) (by omega) ?_
  intro i j W hx hW
  refine c_seq ?_
  refine c_seq ?_
  refine c_reg ?_
  refine l_val (r_move (v := .int _ _) rfl rfl) rfl rfl ?_
  refine l_val (r_lssN (n := 16) rfl rfl rfl rfl) rfl rfl ?_
  refine l_split ?_ ?_
  · intro hc1
    replace hc1 := of_decide_eq_true hc1
    refine l_end ?_
    refine n_then ?_
    refine c_true rfl ?_
    refine c_skip ?_
    refine n_then ?_
    refine c_seq ?_
    refine c_block ?_
    refine c_reg ?_
    refine l_val (r_move (v := .int _ _) rfl rfl) rfl rfl ?_
    refine l_val (r_indexAddrArr1 Try.underlying23 tyC5.size rfl rfl rfl (by omega)) rfl rfl ?_
    refine l_storeC hW 1 tyC5 (v := .int _ _) rfl rfl rfl rfl rfl rfl (by rw [kcf_len]; omega) rfl ?_
    intro W hW
    refine l_end ?_
    refine n_block ?_
    refine n_then ?_
    refine c_reg ?_
    refine l_val (r_move (v := .int _ _) rfl rfl) rfl rfl ?_
    refine l_val (r_addN (n := 1) rfl rfl rfl (by omega)) rfl rfl ?_
    refine l_val (r_assign (v := .int _ _) rfl rfl) rfl rfl ?_
    refine l_end ?_
    refine n_then ?_
    exact loop_next (i + 1) (by kernel_rfl) (hW.to (by rw [← upto_set]; rfl)) (by omega) (by omega)
  · intro hc1
    replace hc1 := of_decide_eq_false hc1
    obtain rfl : i = 16 := by omega
    rw [kc_s5a] at hW
    refine l_end ?_
    refine n_then ?_
    refine c_false rfl ?_
    refine c_exit ?_
    refine x_then ?_
    refine x_then ?_
    refine x_hit ?_
    refine n_then ?_
    refine c_seq ?_
    refine c_reg ?_
    refine l_val (r_indexAddrArr1 (n := 0) Try.underlying23 tyC5.size rfl rfl rfl (by omega)) rfl rfl ?_
    refine l_storeC hW 0 tyC5 (v := .int _ _) rfl rfl rfl rfl rfl rfl (by first | rfl | omega | (simp; done) | (simp; omega)) rfl ?_
    intro W hW
    refine l_end ?_
    replace hW := hW.to (L' := [⟨_, kc (blk 128 0 0#64), 23⟩, _, _, _, _, _, _, _, _, _, _]) (by rw [← ex_pad]; rfl)
    refine n_then ?_
    refine c_seq ?_
    refine c_reg ?_
    refine l_callR hW (g_HashS none 0 [] (Nat.le_refl _) (fun _ => ⟨rfl, rfl⟩) (by decide)) en35 (Rd.nil _ _) rfl rfl rfl rfl ?_
    intro W hW
    refine l_val (r_move (v := .tuple _) rfl rfl) rfl rfl ?_
    refine l_val (r_extract (v := .agg _) rfl rfl rfl) rfl rfl ?_
    refine l_val (r_extract (v := .int _ _) rfl rfl rfl) rfl rfl ?_
    refine l_alloc hW tyZ23 rfl rfl rfl ?_
    intro g8 W hW
    refine l_storeA hW 0 tyA23 rfl rfl rfl rfl rfl rfl (by first | rfl | exact kc_len _ | exact kcf_len _ | (simp; done)) (by first | rfl | exact kc_len _ | exact kcf_len _ | (simp; done)) (by first | exact kc_one _ | exact kcf_one _ | (simp [Value.oneCell']; done)) ?_
    intro W hW
    refine l_val (r_assign (v := .int _ _) rfl rfl) rfl rfl ?_
    refine l_end ?_
    refine n_then ?_
    refine c_seq ?_
    refine c_reg ?_
    refine l_call hW (g_ParseN parse_tX) en19 rfl rfl rfl rfl ?_
    intro W hW
    refine l_val (r_move (v := .tuple _) rfl rfl) rfl rfl ?_
    refine l_val (r_extract (v := .agg _) rfl rfl rfl) rfl rfl ?_
    refine l_val (r_extract (v := .int _ _) rfl rfl rfl) rfl rfl ?_
    refine l_val (r_assign (v := .int _ _) rfl rfl) rfl rfl ?_
    refine l_end ?_
    refine n_then ?_
    refine c_seq ?_
    refine c_reg ?_
    refine l_call hW (g_ParseN parse_tY) en19 rfl rfl rfl rfl ?_
    intro W hW
    refine l_val (r_move (v := .tuple _) rfl rfl) rfl rfl ?_
    refine l_val (r_extract (v := .agg _) rfl rfl rfl) rfl rfl ?_
    refine l_val (r_extract (v := .int _ _) rfl rfl rfl) rfl rfl ?_
    refine l_val (r_assign (v := .int _ _) rfl rfl) rfl rfl ?_
    refine l_end ?_
    refine n_then ?_
    refine c_seq ?_
    refine c_regY hW [] [.q, .q, .q, .q, .q, .q, .q, .q, .q, .q, .q, .q, .q, .q, .q, .q, .q, .q, .q, .q, .q, .q, .q, .q, .q, .q, .q, .q, .q, .q] [0, 1, 3, 7, 15, 31, 63, 127, 255, 511, 1023, 2047, 4095, 8191, 8191, 8191, 57343, 8191, 253951, 524287, 1048575, 2097151, 4194303, 8388607, 16777215, 33554431, 67108863, 134217727, 268435455, 536870911] (by kernel_rfl) (by kernel_rfl) ?_
    refine y_loadA 11 tyA23 rfl rfl rfl rfl rfl (by first | rfl | exact kc_len _ | exact kcf_len _ | (simp; done)) (by decide) ?_
    refine y_call (g_Number k 5 0) en25 rfl rfl rfl rfl ?_
    refine y_val (r_eql_u64 (b := true) (y := 0#64) rfl rfl rfl (by simp [number])) rfl rfl ?_
    refine y_val (r_move (v := .bool _) rfl rfl) rfl rfl ?_
    refine y_loadA 11 tyA23 (by kernel_rfl) rfl rfl rfl rfl (by first | rfl | exact kc_len _ | exact kcf_len _ | (simp; done)) (by decide) ?_
    refine y_call (g_Number k 5 1) en25 (by kernel_rfl) rfl rfl rfl ?_
    refine y_val (r_eql_u64 (b := true) (y := 0#64) rfl rfl rfl (by simp [number])) (by kernel_rfl) rfl ?_
    refine y_val (r_pick (v := .bool _) rfl rfl rfl) rfl rfl ?_
    refine y_val (r_move (v := .bool _) rfl rfl) rfl rfl ?_
    refine y_val (r_move (v := .int _ _) rfl rfl) (by kernel_rfl) rfl ?_
    refine y_val (r_eqlN (b := true) (m := 0) (n := 0) rfl rfl rfl rfl) (by kernel_rfl) rfl ?_
    refine y_val (r_pick (v := .bool _) rfl rfl rfl) rfl rfl ?_
    refine y_val (r_move (v := .bool _) rfl rfl) rfl rfl ?_
    refine y_loadA 0 tyA23 (by kernel_rfl) rfl rfl rfl rfl (by first | rfl | exact kc_len _ | exact kcf_len _ | (simp; done)) (by decide) ?_
    refine y_loadA 1 tyA23 (by kernel_rfl) rfl rfl rfl rfl (by first | rfl | exact kc_len _ | exact kcf_len _ | (simp; done)) (by decide) ?_
    refine y_loadA 2 tyA23 (by kernel_rfl) rfl rfl rfl rfl (by first | rfl | exact kc_len _ | exact kcf_len _ | (simp; done)) (by decide) ?_
    refine y_call (g_Encrypt (blk 128 0 0#64) s5a) en27 (by kernel_rfl) rfl rfl rfl ?_
    refine y_loadA 2 tyA23 (by kernel_rfl) rfl rfl rfl rfl (by first | rfl | exact kc_len _ | exact kcf_len _ | (simp; done)) (by decide) ?_
    refine y_call (g_lXor _ _) en39 (by kernel_rfl) rfl rfl rfl ?_
    refine y_val (r_eqlK tyK23 _ _ (c := true) rfl rfl rfl (decide_eq_true hash_nil)) (by kernel_rfl) rfl ?_
    refine y_val (r_pick (v := .bool _) rfl rfl rfl) rfl rfl ?_
    refine y_val (r_move (v := .bool _) rfl rfl) rfl rfl ?_
    refine y_val (r_move (v := .int _ _) rfl rfl) (by kernel_rfl) rfl ?_
    refine y_val (r_eqlN (b := true) (m := 12) (n := 12) rfl rfl rfl rfl) (by kernel_rfl) rfl ?_
    refine y_val (r_pick (v := .bool _) rfl rfl rfl) rfl rfl ?_
    refine y_val (r_move (v := .bool _) rfl rfl) rfl rfl ?_
    refine y_val (r_move (v := .int _ _) rfl rfl) (by kernel_rfl) rfl ?_
    refine y_val (r_eqlN (b := true) (m := 12) (n := 12) rfl rfl rfl rfl) (by kernel_rfl) rfl ?_
    refine y_val (r_pick (v := .bool _) rfl rfl rfl) rfl rfl ?_
    refine y_val (r_assign (v := .bool _) rfl rfl) rfl rfl ?_
    refine y_end ?_
    intro W hW
    refine n_then ?_
    refine c_ret ?_
    refine ret_tmp (v := .bool true) rfl ?_ ⟨rfl, hW.below⟩
    rfl

theorem g_CipherExamples : Gives Try.prog 18 [].toArray (.bool true) := g_CipherExamplesE known_ex

end Go.Proofs.Ytlabfinhdidmaaa
