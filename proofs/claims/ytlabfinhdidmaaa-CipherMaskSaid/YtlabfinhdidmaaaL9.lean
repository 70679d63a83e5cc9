/- Law of masks. -/
import Derived.Test.YtlabfinhdidmaaaFacts
import Derived.Test.YtlabfinhdidmaaaVals
import Derived.Test.YtlabfinhdidmaaaC21
import Derived.Test.YtlabfinhdidmaaaVals7
import Derived.Test.YtlabfinhdidmaaaVals6
namespace Go.Proofs.Ytlabfinhdidmaaa
open Go.RowKit Pl

set_option maxRecDepth 10000 in
/-- headend/headendlaw02.CipherMask -/
theorem g_CipherMask (k : Kw) (m : W64) (a : Option Addr) (c : Nat) (l : Bs8) (a2 : Option Addr) (c2 : Nat) (l2 : Bs8) (z : Int) (hcap : l.length ≤ c) (hcap2 : l2.length ≤ c2) : GivesR Try.prog 16 [keyV k, U64 m, .slice a l.length c, .slice a2 l2.length c2, .int .i64 z].toArray (fun w => Rd w a (bl l) ∧ Rd w a2 (bl l2)) (.bool true) := by
  refine givesR_of Try.func16 rfl (bs := [keyV k, U64 m, .slice a l.length c, .slice a2 l2.length c2, .int .i64 z, undef, undef, undef, undef, undef, undef, undef, undef, undef, undef, undef, undef, undef, undef, undef, undef, undef, undef, undef, undef, undef, undef, undef, undef, undef, undef, undef, undef, undef, undef, undef, undef, undef, undef, undef, undef, undef, undef, undef, undef, undef, undef, undef, undef, undef, undef, undef, undef, undef, undef, undef, undef, undef, undef, undef, undef, undef, undef, undef, undef, undef, undef, undef, undef, undef, undef, undef, undef, undef, undef, undef, undef, undef, undef, undef, undef, undef, undef, undef, undef, undef, undef, undef, undef, undef, undef, undef, undef, undef, undef, undef, undef, undef, undef, undef, undef, undef, undef, undef, undef, undef, undef, undef, undef, undef, undef, undef, undef, undef, undef, undef, undef, undef, undef, undef, undef, undef, undef, undef, undef, undef, undef, undef, undef, undef, undef, undef, undef, undef, undef, undef, undef, undef, undef, undef, undef]) rfl ?_
  intro w hP hW
  refine c_seq ?_
  refine c_reg ?_
  refine l_box hW rfl rfl rfl rfl ?_
  intro g1 W hW
  refine l_val (r_assign (v := .bool _) rfl rfl) rfl rfl ?_
  refine l_end ?_
  refine n_then ?_
  refine c_seq ?_
  refine c_reg ?_
  refine l_call hW (g_alive) en37 rfl rfl rfl rfl ?_
  intro W hW
  refine l_val (r_assign (v := .bool _) rfl rfl) rfl rfl ?_
  refine l_end ?_
  refine n_then ?_
  refine c_seq ?_
  refine c_seq ?_
  refine c_reg ?_
  refine l_val (r_move (v := .slice _ _ _) rfl rfl) rfl rfl ?_
  refine l_val (r_lenSlice Try.underlying37 rfl rfl) rfl rfl ?_
  refine l_val (r_gtrN (n := 16384) rfl rfl rfl rfl) rfl rfl ?_
  refine l_split ?_ ?_
  · intro hc1
    replace hc1 := of_decide_eq_true hc1
    refine l_val (r_move (v := .bool _) rfl rfl) rfl rfl ?_
    refine l_not (by kernel_rfl) rfl ?_
    refine l_not (by kernel_rfl) rfl ?_
    refine l_not (by kernel_rfl) rfl ?_
    refine l_not (by kernel_rfl) rfl ?_
    refine l_not (by kernel_rfl) rfl ?_
    refine l_val (r_pick (v := .bool _) rfl rfl rfl) rfl rfl ?_
    refine l_val (r_move (v := .bool _) rfl rfl) rfl rfl ?_
    refine l_not (by kernel_rfl) rfl ?_
    refine l_not (by kernel_rfl) rfl ?_
    refine l_val (r_pick (v := .bool _) rfl rfl rfl) rfl rfl ?_
    refine l_val (r_move (v := .bool _) rfl rfl) rfl rfl ?_
    refine l_not (by kernel_rfl) rfl ?_
    refine l_not (by kernel_rfl) rfl ?_
    refine l_not (by kernel_rfl) rfl ?_
    refine l_not (by kernel_rfl) rfl ?_
    refine l_val (r_pick (v := .bool _) rfl rfl rfl) rfl rfl ?_
    refine l_end ?_
    refine n_then ?_
    refine c_true rfl ?_
    refine c_seq ?_
    refine c_reg ?_
    refine l_val (r_move (v := .bool _) rfl rfl) rfl rfl ?_
    refine l_val (r_assign (v := .bool _) rfl rfl) rfl rfl ?_
    refine l_end ?_
    refine n_then ?_
    refine c_ret ?_
    refine r_then ?_
    refine ret_tmp (v := .bool true) rfl ?_ ⟨rfl, hW.below⟩
    rfl
  · intro hc1
    replace hc1 := of_decide_eq_false hc1
    refine l_val (r_move (v := .bool _) rfl rfl) rfl rfl ?_
    refine l_valG (r_move (v := .slice _ _ _) rfl rfl) (by kernel_rfl) rfl ?_
    refine l_valG (r_lenSlice Try.underlying37 rfl rfl) (by kernel_rfl) rfl ?_
    refine l_valG (r_move (v := .slice _ _ _) rfl rfl) (by kernel_rfl) rfl ?_
    refine l_valG (r_lenSlice Try.underlying37 rfl rfl) (by kernel_rfl) rfl ?_
    refine l_valG (r_neqN (m := l2.length) (n := l.length) rfl rfl rfl rfl) (by kernel_rfl) rfl ?_
    refine l_split ?_ ?_
    · intro hc2
      replace hc2 := of_decide_eq_true hc2
      refine l_val (r_pick (v := .bool _) rfl rfl rfl) rfl rfl ?_
      refine l_val (r_move (v := .bool _) rfl rfl) rfl rfl ?_
      refine l_not (by kernel_rfl) rfl ?_
      refine l_not (by kernel_rfl) rfl ?_
      refine l_val (r_pick (v := .bool _) rfl rfl rfl) rfl rfl ?_
      refine l_val (r_move (v := .bool _) rfl rfl) rfl rfl ?_
      refine l_not (by kernel_rfl) rfl ?_
      refine l_not (by kernel_rfl) rfl ?_
      refine l_not (by kernel_rfl) rfl ?_
      refine l_not (by kernel_rfl) rfl ?_
      refine l_val (r_pick (v := .bool _) rfl rfl rfl) rfl rfl ?_
      refine l_end ?_
      refine n_then ?_
      refine c_true rfl ?_
      refine c_seq ?_
      refine c_reg ?_
      refine l_val (r_move (v := .bool _) rfl rfl) rfl rfl ?_
      refine l_val (r_assign (v := .bool _) rfl rfl) rfl rfl ?_
      refine l_end ?_
      refine n_then ?_
      refine c_ret ?_
      refine r_then ?_
      refine ret_tmp (v := .bool true) rfl ?_ ⟨rfl, hW.below⟩
      rfl
    · intro hc2
      replace hc2 := of_decide_eq_false hc2
      refine l_val (r_pick (v := .bool _) rfl rfl rfl) rfl rfl ?_
      refine l_val (r_move (v := .bool _) rfl rfl) rfl rfl ?_
      refine l_valG (r_move (v := .int _ _) rfl rfl) (by kernel_rfl) rfl ?_
      refine l_valG (r_lss (m := z) (n := 0) rfl rfl rfl rfl) (by kernel_rfl) rfl ?_
      refine l_split ?_ ?_
      · intro hc3
        replace hc3 := of_decide_eq_true hc3
        refine l_val (r_pick (v := .bool _) rfl rfl rfl) rfl rfl ?_
        refine l_val (r_move (v := .bool _) rfl rfl) rfl rfl ?_
        refine l_not (by kernel_rfl) rfl ?_
        refine l_not (by kernel_rfl) rfl ?_
        refine l_not (by kernel_rfl) rfl ?_
        refine l_not (by kernel_rfl) rfl ?_
        refine l_val (r_pick (v := .bool _) rfl rfl rfl) rfl rfl ?_
        refine l_end ?_
        refine n_then ?_
        refine c_true rfl ?_
        refine c_seq ?_
        refine c_reg ?_
        refine l_val (r_move (v := .bool _) rfl rfl) rfl rfl ?_
        refine l_val (r_assign (v := .bool _) rfl rfl) rfl rfl ?_
        refine l_end ?_
        refine n_then ?_
        refine c_ret ?_
        refine r_then ?_
        refine ret_tmp (v := .bool true) rfl ?_ ⟨rfl, hW.below⟩
        rfl
      · intro hc3
        replace hc3 := of_decide_eq_false hc3
        refine l_val (r_pick (v := .bool _) rfl rfl rfl) rfl rfl ?_
        refine l_val (r_move (v := .bool _) rfl rfl) rfl rfl ?_
        refine l_valG (r_move (v := .int _ _) rfl rfl) (by kernel_rfl) rfl ?_
        refine l_valG (r_move (v := .slice _ _ _) rfl rfl) (by kernel_rfl) rfl ?_
        refine l_valG (r_lenSlice Try.underlying37 rfl rfl) (by kernel_rfl) rfl ?_
        refine l_valG (r_geq (m := z) (n := (l.length : Int)) rfl rfl rfl rfl) (by kernel_rfl) rfl ?_
        refine l_split ?_ ?_
        · intro hc4
          replace hc4 := of_decide_eq_true hc4
          refine l_val (r_pick (v := .bool _) rfl rfl rfl) rfl rfl ?_
          refine l_end ?_
          refine n_then ?_
          refine c_true rfl ?_
          refine c_seq ?_
          refine c_reg ?_
          refine l_val (r_move (v := .bool _) rfl rfl) rfl rfl ?_
          refine l_val (r_assign (v := .bool _) rfl rfl) rfl rfl ?_
          refine l_end ?_
          refine n_then ?_
          refine c_ret ?_
          refine r_then ?_
          refine ret_tmp (v := .bool true) rfl ?_ ⟨rfl, hW.below⟩
          rfl
        · intro hc4
          replace hc4 := of_decide_eq_false hc4
          obtain ⟨q, rfl⟩ : ∃ q : Nat, z = q := ⟨z.toNat, by omega⟩
          have hq : q < l.length := by omega
          have hq2 : q < l2.length := by omega
          have hq3 : q < 65536 := by omega
          obtain ⟨b0, o0, rfl⟩ := rd_ptr hP.1 (by omega)
          obtain ⟨b2, o2, rfl⟩ := rd_ptr hP.2 (by omega)
          refine l_val (r_pick (v := .bool _) rfl rfl rfl) rfl rfl ?_
          refine l_end ?_
          refine n_then ?_
          refine c_false rfl ?_
          refine c_skip ?_
          refine n_then ?_
          refine c_seq ?_
          refine c_reg ?_
          refine l_loadA hW 0 tyA23 rfl rfl rfl rfl rfl (by first | rfl | exact kc_len _ | exact kcf_len _ | (simp; done)) ?_
          refine l_val (r_move (v := .int _ _) rfl rfl) rfl rfl ?_
          refine l_val (r_move (v := .slice _ _ _) rfl rfl) rfl rfl ?_
          refine l_callX hW (x_StreamN k m _ l.length c l rfl hcap (by omega)) en31 (hP.1.past hW.below) rfl rfl rfl rfl ?_
          rintro _ _ W ⟨go, rfl, rfl⟩ hW
          replace hW := hW.perm List.perm_append_comm
          refine l_val (r_move (v := .tuple _) rfl rfl) rfl rfl ?_
          refine l_val (r_extract (v := .slice _ _ _) rfl rfl rfl) rfl rfl ?_
          refine l_val (r_extract (v := .int _ _) rfl rfl rfl) rfl rfl ?_
          refine l_val (r_assign (v := .slice _ _ _) rfl rfl) rfl rfl ?_
          refine l_val (r_assign (v := .int _ _) rfl rfl) rfl rfl ?_
          refine l_end ?_
          refine n_then ?_
          refine c_seq ?_
          refine c_reg ?_
          refine l_loadA hW 1 tyA23 rfl rfl rfl rfl rfl (by first | rfl | exact kc_len _ | exact kcf_len _ | (simp; done)) ?_
          refine l_val (r_move (v := .int _ _) rfl rfl) rfl rfl ?_
          refine l_val (r_move (v := .slice _ _ _) rfl rfl) rfl rfl ?_
          refine l_callX hW (x_StreamN k m _ l2.length c2 l2 rfl hcap2 (by omega)) en31 (hP.2.past hW.below) rfl rfl rfl rfl ?_
          rintro _ _ W ⟨go2, rfl, rfl⟩ hW
          replace hW := hW.perm List.perm_append_comm
          refine l_val (r_move (v := .tuple _) rfl rfl) rfl rfl ?_
          refine l_val (r_extract (v := .slice _ _ _) rfl rfl rfl) rfl rfl ?_
          refine l_val (r_extract (v := .int _ _) rfl rfl rfl) rfl rfl ?_
          refine l_val (r_assign (v := .slice _ _ _) rfl rfl) rfl rfl ?_
          refine l_val (r_assign (v := .int _ _) rfl rfl) rfl rfl ?_
          refine l_end ?_
          refine n_then ?_
          refine c_seq ?_
          refine c_seq ?_
          refine c_regY hW [] [.q, .q, .q, .q, .q, .q, .q, .q, .q, .q, .q, .q, .q, .q, .q, .q, .q, .q, .q, .q, .q, .q, .q, .q, .q, .q, .q, .q, .q, .q, .q, .q, .q, .q, .q, .q, .q, .q, .q, .q, .q] [0, 1, 3, 7, 15, 31, 63, 127, 255, 127, 639, 2047, 4095, 8191, 16383, 32767, 16383, 81919, 262143, 524287, 1048575, 2097151, 2097151, 8388607, 16777215, 2097151, 2097151, 102760447, 236978175, 536870911, 2097151, 2097151, 3223322623, 7518289919, 2097151, 2097151, 51541704703, 120261181439, 273806262271, 549755813887, 1099511627775] (by kernel_rfl) (by kernel_rfl) ?_
          refine y_val (r_move (v := .int _ _) rfl rfl) rfl rfl ?_
          refine y_val (r_neqN (b := false) (m := 0) (n := 0) rfl rfl rfl rfl) rfl rfl ?_
          refine y_val (r_move (v := .bool _) rfl rfl) rfl rfl ?_
          refine y_val (r_move (v := .int _ _) rfl rfl) (by kernel_rfl) rfl ?_
          refine y_val (r_neqN (b := false) (m := 0) (n := 0) rfl rfl rfl rfl) (by kernel_rfl) rfl ?_
          refine y_val (r_pick (v := .bool _) rfl rfl rfl) rfl rfl ?_
          refine y_val (r_move (v := .bool _) rfl rfl) rfl rfl ?_
          refine y_val (r_move (v := .slice _ _ _) rfl rfl) (by kernel_rfl) rfl ?_
          refine y_val (r_lenSlice Try.underlying37 rfl rfl) (by kernel_rfl) rfl ?_
          refine y_val (r_move (v := .slice _ _ _) rfl rfl) (by kernel_rfl) rfl ?_
          refine y_val (r_lenSlice Try.underlying37 rfl rfl) (by kernel_rfl) rfl ?_
          refine y_val (r_neqN (b := false) (m := l.length) (n := l.length) rfl rfl rfl (by simp)) (by kernel_rfl) rfl ?_
          refine y_val (r_pick (v := .bool _) rfl rfl rfl) rfl rfl ?_
          refine y_val (r_move (v := .bool _) rfl rfl) rfl rfl ?_
          refine y_val (r_move (v := .slice _ _ _) rfl rfl) (by kernel_rfl) rfl ?_
          refine y_val (r_lenSlice Try.underlying37 rfl rfl) (by kernel_rfl) rfl ?_
          refine y_val (r_move (v := .slice _ _ _) rfl rfl) (by kernel_rfl) rfl ?_
          refine y_val (r_lenSlice Try.underlying37 rfl rfl) (by kernel_rfl) rfl ?_
          refine y_val (r_neqN (b := false) (m := l2.length) (n := l.length) rfl rfl rfl (decide_eq_false (by omega))) (by kernel_rfl) rfl ?_
          refine y_val (r_pick (v := .bool _) rfl rfl rfl) rfl rfl ?_
          refine y_val (r_move (v := .bool _) rfl rfl) rfl rfl ?_
          refine y_val (r_move (v := .slice _ _ _) rfl rfl) (by kernel_rfl) rfl ?_
          refine y_val (r_move (v := .int _ _) rfl rfl) (by kernel_rfl) rfl ?_
          refine y_val (r_indexAddrSl1 (n := q) Try.underlying37 tyC5.size rfl rfl rfl (by omega)) (by kernel_rfl) rfl ?_
          refine y_loadC 1 tyC5 (by kernel_rfl) rfl rfl rfl rfl (bl_get (gb_get (by rw [stream_len]; omega))) (by decide) ?_
          refine y_val (r_move (v := .slice _ _ _) rfl rfl) (by kernel_rfl) rfl ?_
          refine y_val (r_move (v := .int _ _) rfl rfl) (by kernel_rfl) rfl ?_
          refine y_val (r_indexAddrSl1 (n := q) Try.underlying37 tyC5.size rfl rfl rfl (by omega)) (by kernel_rfl) rfl ?_
          refine y_loadC 0 tyC5 (by kernel_rfl) rfl rfl rfl rfl (bl_get (gb_get (by rw [stream_len]; omega))) (by decide) ?_
          refine y_val (r_xor_u8 rfl rfl rfl) (by kernel_rfl) rfl ?_
          refine y_val (r_move (v := .slice _ _ _) rfl rfl) (by kernel_rfl) rfl ?_
          refine y_val (r_move (v := .int _ _) rfl rfl) (by kernel_rfl) rfl ?_
          refine y_val (r_indexAddrSl2 (n := q) Try.underlying37 tyC5.size rfl rfl rfl (by omega)) (by kernel_rfl) rfl ?_
          refine y_loadF tyC5 (rd_cell hP.1 (by omega)) (by kernel_rfl) rfl rfl rfl ?_
          refine y_val (r_move (v := .slice _ _ _) rfl rfl) (by kernel_rfl) rfl ?_
          refine y_val (r_move (v := .int _ _) rfl rfl) (by kernel_rfl) rfl ?_
          refine y_val (r_indexAddrSl2 (n := q) Try.underlying37 tyC5.size rfl rfl rfl (by omega)) (by kernel_rfl) rfl ?_
          refine y_loadF tyC5 (rd_cell hP.2 (by omega)) (by kernel_rfl) rfl rfl rfl ?_
          refine y_val (r_xor_u8 rfl rfl rfl) (by kernel_rfl) rfl ?_
          refine y_val (r_neqN (b := false) rfl rfl rfl (decide_eq_false (by rw [maskB_xor k m l l2 hq hq2]; simp))) (by kernel_rfl) rfl ?_
          refine y_val (r_pick (v := .bool _) rfl rfl rfl) rfl rfl ?_
          refine y_end ?_
          intro W hW
          refine n_then ?_
          refine c_false rfl ?_
          refine c_skip ?_
          refine n_then ?_
          refine c_seq ?_
          refine c_reg ?_
          refine l_alloc hW tyZ23 rfl rfl rfl ?_
          intro g2 W hW
          refine l_end ?_
          refine n_then ?_
          refine c_seq ?_
          refine c_reg ?_
          refine l_val (r_indexAddrArr1 (n := 0) Try.underlying23 tyC5.size rfl rfl rfl (by omega)) rfl rfl ?_
          refine l_storeC hW 0 tyC5 (v := .int _ _) rfl rfl rfl rfl rfl rfl (by first | rfl | omega | (simp; done) | (simp; omega)) rfl ?_
          intro W hW
          refine l_end ?_
          refine n_then ?_
          refine c_seq ?_
          refine c_seq ?_
          refine c_reg ?_
          refine l_val (r_assign (v := .int _ _) rfl rfl) rfl rfl ?_
          refine l_end ?_
          refine n_then ?_
          refine c_block ?_
          refine c_loop (fun (i : Nat) (j : Nat → Value) => [keyV k, U64 m, .slice (some ⟨b0, o0, none⟩) l.length c, .slice (some ⟨b2, o2, none⟩) l2.length c2, .int .i64 (q : Int), .pointer (some ⟨g1, 0, none⟩), j 6, j 7, j 8, j 9, .bool false, .bool true, .slice (some ⟨go, 0, none⟩) l.length l.length, j 13, .slice (some ⟨go2, 0, none⟩) l2.length l2.length, j 15, .pointer (some ⟨g2, 0, none⟩), .int .i64 (i : Int), j 18, .bool true, .slice (some ⟨b0, o0, none⟩) l.length c, j 21, .bool false, .bool false, .slice (some ⟨b2, o2, none⟩) l2.length c2, j 25, .slice (some ⟨b0, o0, none⟩) l.length c, j 27, .bool false, .bool false, .bool false, .int .i64 (q : Int), .bool false, .bool false, .bool false, .int .i64 (q : Int), .slice (some ⟨b0, o0, none⟩) l.length c, j 37, .bool false, .bool false, j 40, j 41, j 42, U64 m, .slice (some ⟨b0, o0, none⟩) l.length c, j 45, .slice (some ⟨go, 0, none⟩) l.length l.length, j 47, j 48, j 49, U64 m, .slice (some ⟨b2, o2, none⟩) l2.length c2, j 52, .slice (some ⟨go2, 0, none⟩) l2.length l2.length, j 54, j 55, .bool false, .bool false, j 58, .bool false, .bool false, .bool false, .slice (some ⟨go, 0, none⟩) l.length l.length, j 63, .slice (some ⟨b0, o0, none⟩) l.length c, j 65, .bool false, .bool false, .bool false, .slice (some ⟨go2, 0, none⟩) l2.length l2.length, j 70, .slice (some ⟨b0, o0, none⟩) l.length c, j 72, .bool false, .bool false, .bool false, .slice (some ⟨go, 0, none⟩) l.length l.length, .int .i64 (q : Int), j 78, j 79, .slice (some ⟨go2, 0, none⟩) l2.length l2.length, .int .i64 (q : Int), j 82, j 83, j 84, .slice (some ⟨b0, o0, none⟩) l.length c, .int .i64 (q : Int), j 87, j 88, .slice (some ⟨b2, o2, none⟩) l2.length c2, .int .i64 (q : Int), j 91, j 92, j 93, .bool false, .bool false, j 96, j 97, j 98, j 99, j 100, j 101, j 102, j 103, j 104, j 105, j 106, j 107, j 108, j 109, j 110, j 111, j 112, j 113, j 114, j 115, j 116, j 117, j 118, j 119, j 120, j 121, j 122, j 123, j 124, j 125, j 126, j 127, j 128, j 129, j 130, j 131, j 132, j 133, j 134, j 135, j 136, j 137, j 138, j 139, j 140]) (fun (i : Nat) => [⟨g2, kcf (mskA q i), 23⟩, ⟨go2, bl (stream k m l2), 5⟩, ⟨go, bl (stream k m l), 5⟩, ⟨g1, kc k, 23⟩]) (fun (i : Nat) => i ≤ 4) (fun (i : Nat) => 4 - i) 0 (by kernel_rfl) (hW.to (by rw [← mskA_zero]; rfl)) (by omega) ?_
          intro i j W hx hW
          refine c_seq ?_
          refine c_seq ?_
          refine c_reg ?_
          refine l_val (r_move (v := .int _ _) rfl rfl) rfl rfl ?_
          refine l_val (r_lssN (n := 4) rfl rfl rfl rfl) rfl rfl ?_
          refine l_split ?_ ?_
          · intro hc5
            replace hc5 := of_decide_eq_true hc5
            refine l_end ?_
            refine n_then ?_
            refine c_true rfl ?_
            refine c_skip ?_
            refine n_then ?_
            refine c_seq ?_
            refine c_block ?_
            refine c_reg ?_
            refine l_val (r_move (v := .int _ _) rfl rfl) rfl rfl ?_
            refine l_val (r_subN (m := 7) (n := i) rfl rfl rfl (by omega) (by omega)) rfl rfl ?_
            refine l_val (r_move (v := .int _ _) rfl rfl) rfl rfl ?_
            refine l_val (r_quoN (n := 16) rfl rfl rfl (by omega) (by omega)) rfl rfl ?_
            refine l_val (r_move (v := .int _ _) rfl rfl) rfl rfl ?_
            refine l_val (r_mulN (m := 8) (n := i) rfl rfl rfl (by omega)) rfl rfl ?_
            refine l_val (r_shr_i64N (n := q / 16) (s := 8 * i) rfl rfl rfl (by omega)) rfl rfl ?_
            refine l_val (r_conv_i64_u8 Try.underlying3 Try.underlying5 rfl rfl) rfl rfl ?_
            refine l_val (r_indexAddrArr1 Try.underlying23 tyC5.size rfl rfl rfl (by omega)) rfl rfl ?_
            refine l_storeC hW 0 tyC5 (v := .int _ _) rfl rfl rfl rfl rfl rfl (by rw [kcf_len]; omega) rfl ?_
            intro W hW
            refine l_end ?_
            refine n_block ?_
            refine n_then ?_
            refine c_reg ?_
            refine l_val (r_move (v := .int _ _) rfl rfl) rfl rfl ?_
            refine l_val (r_addN (n := 1) rfl rfl rfl (by omega)) rfl rfl ?_
            refine l_val (r_assign (v := .int _ _) rfl rfl) rfl rfl ?_
            refine l_end ?_
            refine n_then ?_
            exact loop_next (i + 1) (by kernel_rfl) (hW.to (by rw [← mskA_set q (by omega)]; rfl)) (by omega) (by omega)
          · intro hc5
            replace hc5 := of_decide_eq_false hc5
            obtain rfl : i = 4 := by omega
            rw [mskB_zero q m] at hW
            refine l_end ?_
            refine n_then ?_
            refine c_false rfl ?_
            refine c_exit ?_
            refine x_then ?_
            refine x_then ?_
            refine x_hit ?_
            refine n_then ?_
            refine c_seq ?_
            refine c_seq ?_
            refine c_reg ?_
            refine l_val (r_assign (v := .int _ _) rfl rfl) rfl rfl ?_
            refine l_end ?_
            refine n_then ?_
            refine c_block ?_
            refine c_loop (fun (i : Nat) (j : Nat → Value) => [keyV k, U64 m, .slice (some ⟨b0, o0, none⟩) l.length c, .slice (some ⟨b2, o2, none⟩) l2.length c2, .int .i64 (q : Int), .pointer (some ⟨g1, 0, none⟩), j 6, j 7, j 8, j 9, .bool false, .bool true, .slice (some ⟨go, 0, none⟩) l.length l.length, j 13, .slice (some ⟨go2, 0, none⟩) l2.length l2.length, j 15, .pointer (some ⟨g2, 0, none⟩), j 17, .int .i64 (i : Int), .bool true, .slice (some ⟨b0, o0, none⟩) l.length c, j 21, .bool false, .bool false, .slice (some ⟨b2, o2, none⟩) l2.length c2, j 25, .slice (some ⟨b0, o0, none⟩) l.length c, j 27, .bool false, .bool false, .bool false, .int .i64 (q : Int), .bool false, .bool false, .bool false, .int .i64 (q : Int), .slice (some ⟨b0, o0, none⟩) l.length c, j 37, .bool false, .bool false, j 40, j 41, j 42, U64 m, .slice (some ⟨b0, o0, none⟩) l.length c, j 45, .slice (some ⟨go, 0, none⟩) l.length l.length, j 47, j 48, j 49, U64 m, .slice (some ⟨b2, o2, none⟩) l2.length c2, j 52, .slice (some ⟨go2, 0, none⟩) l2.length l2.length, j 54, j 55, .bool false, .bool false, j 58, .bool false, .bool false, .bool false, .slice (some ⟨go, 0, none⟩) l.length l.length, j 63, .slice (some ⟨b0, o0, none⟩) l.length c, j 65, .bool false, .bool false, .bool false, .slice (some ⟨go2, 0, none⟩) l2.length l2.length, j 70, .slice (some ⟨b0, o0, none⟩) l.length c, j 72, .bool false, .bool false, .bool false, .slice (some ⟨go, 0, none⟩) l.length l.length, .int .i64 (q : Int), j 78, j 79, .slice (some ⟨go2, 0, none⟩) l2.length l2.length, .int .i64 (q : Int), j 82, j 83, j 84, .slice (some ⟨b0, o0, none⟩) l.length c, .int .i64 (q : Int), j 87, j 88, .slice (some ⟨b2, o2, none⟩) l2.length c2, .int .i64 (q : Int), j 91, j 92, j 93, .bool false, .bool false, j 96, j 97, .bool false, j 99, j 100, j 101, j 102, j 103, j 104, j 105, j 106, j 107, j 108, j 109, j 110, j 111, j 112, j 113, j 114, j 115, j 116, j 117, j 118, j 119, j 120, j 121, j 122, j 123, j 124, j 125, j 126, j 127, j 128, j 129, j 130, j 131, j 132, j 133, j 134, j 135, j 136, j 137, j 138, j 139, j 140]) (fun (i : Nat) => [⟨g2, kcf (mskB q m i), 23⟩, ⟨go2, bl (stream k m l2), 5⟩, ⟨go, bl (stream k m l), 5⟩, ⟨g1, kc k, 23⟩]) (fun (i : Nat) => i ≤ 8) (fun (i : Nat) => 8 - i) 0 (by kernel_rfl) hW (by omega) ?_
            intro i j W hx hW
            refine c_seq ?_
            refine c_seq ?_
            refine c_reg ?_
            refine l_val (r_move (v := .int _ _) rfl rfl) rfl rfl ?_
            refine l_val (r_lssN (n := 8) rfl rfl rfl rfl) rfl rfl ?_
            refine l_split ?_ ?_
            · intro hc6
              replace hc6 := of_decide_eq_true hc6
              refine l_end ?_
              refine n_then ?_
              refine c_true rfl ?_
              refine c_skip ?_
              refine n_then ?_
              refine c_seq ?_
              refine c_block ?_
              refine c_reg ?_
              refine l_val (r_move (v := .int _ _) rfl rfl) rfl rfl ?_
              refine l_val (r_subN (m := 15) (n := i) rfl rfl rfl (by omega) (by omega)) rfl rfl ?_
              refine l_val (r_move (v := .int _ _) rfl rfl) rfl rfl ?_
              refine l_val (r_move (v := .int _ _) rfl rfl) rfl rfl ?_
              refine l_val (r_mulN (m := 8) (n := i) rfl rfl rfl (by omega)) rfl rfl ?_
              refine l_val (r_shr_u64 (s := 8 * i) rfl rfl rfl (by omega)) rfl rfl ?_
              refine l_val (r_conv_u64_u8 Try.underlying31 Try.underlying5 rfl rfl) rfl rfl ?_
              refine l_val (r_indexAddrArr1 Try.underlying23 tyC5.size rfl rfl rfl (by omega)) rfl rfl ?_
              refine l_storeC hW 0 tyC5 (v := .int _ _) rfl rfl rfl rfl rfl rfl (by rw [kcf_len]; omega) rfl ?_
              intro W hW
              refine l_end ?_
              refine n_block ?_
              refine n_then ?_
              refine c_reg ?_
              refine l_val (r_move (v := .int _ _) rfl rfl) rfl rfl ?_
              refine l_val (r_addN (n := 1) rfl rfl rfl (by omega)) rfl rfl ?_
              refine l_val (r_assign (v := .int _ _) rfl rfl) rfl rfl ?_
              refine l_end ?_
              refine n_then ?_
              exact loop_next (i + 1) (by kernel_rfl) (hW.to (by rw [← mskB_set q m (by omega)]; rfl)) (by omega) (by omega)
            · intro hc6
              replace hc6 := of_decide_eq_false hc6
              obtain rfl : i = 8 := by omega
              rw [mskB_all q m hq3] at hW
              refine l_end ?_
              refine n_then ?_
              refine c_false rfl ?_
              refine c_exit ?_
              refine x_then ?_
              refine x_then ?_
              refine x_hit ?_
              refine n_then ?_
              refine c_seq ?_
              refine c_regY hW [] [.q, .q, .q, .q, .q, .q, .q, .q, .q, .q, .q, .q, .q, .q, .q, .q, .q, .q, .q, .q] [0, 1, 3, 3, 15, 31, 3, 3, 195, 451, 1023, 3, 3, 6147, 3, 16387, 63491, 131071, 262143, 524287] (by kernel_rfl) (by kernel_rfl) ?_
              refine y_val (r_move (v := .bool _) rfl rfl) rfl rfl ?_
              refine y_val (r_move (v := .bool _) rfl rfl) rfl rfl ?_
              refine y_val (r_move (v := .slice _ _ _) rfl rfl) (by kernel_rfl) rfl ?_
              refine y_val (r_move (v := .int _ _) rfl rfl) (by kernel_rfl) rfl ?_
              refine y_val (r_indexAddrSl1 (n := q) Try.underlying37 tyC5.size rfl rfl rfl (by omega)) (by kernel_rfl) rfl ?_
              refine y_loadC 2 tyC5 (by kernel_rfl) rfl rfl rfl rfl (bl_get (gb_get (by rw [stream_len]; omega))) (by decide) ?_
              refine y_val (r_move (v := .slice _ _ _) rfl rfl) (by kernel_rfl) rfl ?_
              refine y_val (r_move (v := .int _ _) rfl rfl) (by kernel_rfl) rfl ?_
              refine y_val (r_indexAddrSl2 (n := q) Try.underlying37 tyC5.size rfl rfl rfl (by omega)) (by kernel_rfl) rfl ?_
              refine y_loadF tyC5 (rd_cell hP.1 (by omega)) (by kernel_rfl) rfl rfl rfl ?_
              refine y_val (r_xor_u8 rfl rfl rfl) (by kernel_rfl) rfl ?_
              refine y_loadA 3 tyA23 (by kernel_rfl) rfl rfl rfl rfl (by first | rfl | exact kc_len _ | exact kcf_len _ | (simp; done)) (by decide) ?_
              refine y_loadA 0 tyA23 (by kernel_rfl) rfl rfl rfl rfl (by first | rfl | exact kc_len _ | exact kcf_len _ | (simp; done)) (by decide) ?_
              refine y_call (g_Encrypt k (blk 1 (BitVec.ofNat 64 (q / 16)) m)) en27 (by kernel_rfl) rfl rfl rfl ?_
              refine y_val (r_move (v := .int _ _) rfl rfl) (by kernel_rfl) rfl ?_
              refine y_val (r_remN (n := 16) rfl rfl rfl (by omega)) (by kernel_rfl) rfl ?_
              refine y_val (r_indexArr (n := q % 16) Try.underlying23 tyC5 rfl rfl rfl (by omega) (kc_get _ (q % 16) (by omega))) (by kernel_rfl) rfl ?_
              refine y_val (r_eql_u8 (b := true) rfl rfl rfl (decide_eq_true (mask_of k m l hq))) (by kernel_rfl) rfl ?_
              refine y_val (r_pick (v := .bool _) rfl rfl rfl) rfl rfl ?_
              refine y_val (r_assign (v := .bool _) rfl rfl) rfl rfl ?_
              refine y_end ?_
              intro W hW
              refine n_then ?_
              refine c_ret ?_
              refine ret_tmp (v := .bool true) rfl ?_ ⟨rfl, hW.below⟩
              rfl

end Go.Proofs.Ytlabfinhdidmaaa
