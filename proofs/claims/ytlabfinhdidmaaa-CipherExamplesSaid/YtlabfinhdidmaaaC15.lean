/- Streams of the reference. -/
import Derived.Test.YtlabfinhdidmaaaFacts
import Derived.Test.YtlabfinhdidmaaaVals
import Derived.Test.YtlabfinhdidmaaaC14
import Derived.Test.YtlabfinhdidmaaaVals3
namespace Go.Proofs.Ytlabfinhdidmaaa
open Go.RowKit Pl

set_option maxRecDepth 10000 in
/-- headend/headendref02.Stream -/
theorem x_rStreamB (k : Kw) (m : W64) (a : Option Addr) (c : Nat) (l : Bs8) (_ : l.length ≤ c) (hb : 16384 < l.length) : GivesX Try.prog 32 [keyV k, U64 m, .slice a l.length c].toArray (fun w => Rd w a (bl l)) (fun v Bs => v = .tuple #[.slice none 0 0, .int .i64 4] ∧ Bs = []) := by
  refine givesX_of Try.func32 rfl (bs := [keyV k, U64 m, .slice a l.length c, undef, undef, undef, undef, undef, undef, undef, undef, undef, undef, undef, undef, undef, undef, undef, undef, undef, undef, undef, undef, undef, undef, undef, undef, undef, undef, undef, undef, undef, undef, undef, undef, undef, undef, undef, undef, undef, undef, undef, undef, undef, undef, undef, undef, undef, undef, undef, undef]) rfl ?_
  intro w hP hW
  refine c_seq ?_
  refine c_reg ?_
  refine l_box hW rfl rfl rfl rfl ?_
  intro g1 W hW
  refine l_val (r_assign (v := .slice _ _ _) rfl rfl) rfl rfl ?_
  refine l_val (r_assign (v := .int _ _) rfl rfl) rfl rfl ?_
  refine l_end ?_
  refine n_then ?_
  refine c_seq ?_
  refine c_seq ?_
  refine c_reg ?_
  refine l_val (r_move (v := .slice _ _ _) rfl rfl) rfl rfl ?_
  refine l_val (r_lenSlice Try.underlying37 rfl rfl) rfl rfl ?_
  refine l_val (r_gtrN (b := true) (n := 16384) rfl rfl rfl (decide_eq_true (by omega))) rfl rfl ?_
  refine l_end ?_
  refine n_then ?_
  refine c_true rfl ?_
  refine c_seq ?_
  refine c_reg ?_
  refine l_val (r_assign (v := .slice _ _ _) rfl rfl) rfl rfl ?_
  refine l_val (r_assign (v := .int _ _) rfl rfl) rfl rfl ?_
  refine l_end ?_
  refine n_then ?_
  refine c_ret ?_
  refine r_then ?_
  refine ret_tmp2 rfl rfl rfl ?_
  exact ⟨_, [], rfl, ⟨rfl, rfl⟩, hW.drop 1⟩

set_option maxRecDepth 10000 in
/-- headend/headendref02.Stream -/
theorem x_rStreamS (k : Kw) (m : W64) (a : Option Addr) (c : Nat) (l : Bs8) (hcap : l.length ≤ c) (hb : ¬ 16384 < l.length) : GivesX Try.prog 32 [keyV k, U64 m, .slice a l.length c].toArray (fun w => Rd w a (bl l)) (fun v Bs => ∃ u, v = .tuple #[u, .int .i64 0] ∧ NewSl 5 1 l.length (bl (stream k m l)) u Bs) := by
  refine givesX_of Try.func32 rfl (bs := [keyV k, U64 m, .slice a l.length c, undef, undef, undef, undef, undef, undef, undef, undef, undef, undef, undef, undef, undef, undef, undef, undef, undef, undef, undef, undef, undef, undef, undef, undef, undef, undef, undef, undef, undef, undef, undef, undef, undef, undef, undef, undef, undef, undef, undef, undef, undef, undef, undef, undef, undef, undef, undef, undef]) rfl ?_
  intro w hP hW
  have hnp : nport l.length ≤ 1025 := by unfold nport; omega
  have hnq : nport l.length = (l.length + 15) / 16 := rfl
  refine c_seq ?_
  refine c_reg ?_
  refine l_box hW rfl rfl rfl rfl ?_
  intro g1 W hW
  refine l_val (r_assign (v := .slice _ _ _) rfl rfl) rfl rfl ?_
  refine l_val (r_assign (v := .int _ _) rfl rfl) rfl rfl ?_
  refine l_end ?_
  refine n_then ?_
  refine c_seq ?_
  refine c_seq ?_
  refine c_reg ?_
  refine l_val (r_move (v := .slice _ _ _) rfl rfl) rfl rfl ?_
  refine l_val (r_lenSlice Try.underlying37 rfl rfl) rfl rfl ?_
  refine l_val (r_gtrN (b := false) (n := 16384) rfl rfl rfl (decide_eq_false (by omega))) rfl rfl ?_
  refine l_end ?_
  refine n_then ?_
  refine c_false rfl ?_
  refine c_skip ?_
  refine n_then ?_
  refine c_seq ?_
  refine c_reg ?_
  refine l_val (r_assign (v := .slice _ _ _) rfl rfl) rfl rfl ?_
  refine l_end ?_
  refine n_then ?_
  refine c_seq ?_
  refine c_seq ?_
  refine c_reg ?_
  refine l_val (r_assign (v := .int _ _) rfl rfl) rfl rfl ?_
  refine l_end ?_
  refine n_then ?_
  refine c_block ?_
  refine c_loop (fun (x : Nat × Nat × Option Addr × Nat × List Blk) (j : Nat → Value) => [keyV k, U64 m, .slice a l.length c, .pointer (some ⟨g1, 0, none⟩), j 4, j 5, j 6, .int .i64 0, .slice x.2.2.1 x.2.1 x.2.2.2.1, .int .i64 (x.1 : Int), j 10, j 11, .slice a l.length c, j 13, .bool false, j 15, j 16, j 17, j 18, j 19, j 20, j 21, j 22, j 23, j 24, j 25, j 26, j 27, j 28, j 29, j 30, j 31, j 32, j 33, j 34, j 35, j 36, j 37, j 38, j 39, j 40, j 41, j 42, j 43, j 44, j 45, j 46, j 47, j 48, j 49, j 50]) (fun (x : Nat × Nat × Option Addr × Nat × List Blk) => [⟨g1, kc k, 23⟩] ++ x.2.2.2.2) (fun (x : Nat × Nat × Option Addr × Nat × List Blk) => x.1 ≤ nport l.length ∧ x.2.1 = min (16 * x.1) l.length ∧ OwnSl 5 1 x.2.2.1 x.2.1 x.2.2.2.1 (bl ((stream k m l).take x.2.1)) x.2.2.2.2) (fun (x : Nat × Nat × Option Addr × Nat × List Blk) => nport l.length - x.1) (0, 0, none, 0, []) (by kernel_rfl) hW ⟨Nat.zero_le _, by simp, OwnSl.nil 5 1⟩ ?_
  intro x j W hx hW
  obtain ⟨i, n1, a1, c1, Bs1⟩ := x
  have hi : i ≤ nport l.length := hx.1
  have hn1 : n1 = min (16 * i) l.length := hx.2.1
  have hO : OwnSl 5 1 a1 n1 c1 (bl ((stream k m l).take n1)) Bs1 := hx.2.2
  replace hW : Cl (base w) ([⟨g1, kc k, 23⟩] ++ Bs1) W := hW
  refine c_seq ?_
  refine c_seq ?_
  refine c_reg ?_
  refine l_val (r_move (v := .int _ _) rfl rfl) rfl rfl ?_
  refine l_val (r_move (v := .slice _ _ _) rfl rfl) rfl rfl ?_
  refine l_call hW (g_portions _ _ _ (by omega)) en56 rfl rfl rfl rfl ?_
  intro W hW
  refine l_val (r_lssN rfl rfl rfl rfl) rfl rfl ?_
  refine l_split ?_ ?_
  · intro hc1
    replace hc1 := of_decide_eq_true hc1
    refine l_end ?_
    refine n_then ?_
    refine c_true rfl ?_
    refine c_skip ?_
    refine n_then ?_
    refine c_seq ?_
    refine c_block ?_
    refine c_seq ?_
    refine c_regM hW [] [.q, .q, .q, .q, .q, .q, .q, .q, .q, .q, .mk 0, .st 0] [⟨10, allocX 23 16⟩] [z23] [10] [0, 0, 3, 0, 0, 16, 0, 119, 255, 511, 0, 2047] (by kernel_rfl) (by kernel_rfl) rfl (by kernel_rfl) ?_
    refine y_val (r_move (v := .slice _ _ _) rfl rfl) rfl rfl ?_
    refine y_val (r_move (v := .int _ _) rfl rfl) rfl rfl ?_
    refine y_callR (g_portion a l.length c l rfl (by omega) i (by simp only [nport] at hc1; omega) hcap) en58 (fun L2 w hs hC => hP.past hC.below) rfl rfl rfl rfl ?_
    refine y_loadA 0 tyA23 rfl rfl rfl rfl rfl (by first | rfl | exact kc_len _ | exact kcf_len _ | (simp; done)) (by decide) ?_
    refine y_val (r_move (v := .int _ _) rfl rfl) rfl rfl ?_
    refine y_val (r_conv_i64_u64 Try.underlying3 Try.underlying31 rfl rfl) rfl rfl ?_
    refine y_val (r_move (v := .int _ _) rfl rfl) rfl rfl ?_
    refine y_call (g_rBlock 1 (BitVec.ofNat 64 i) m (by rw [BitVec.toNat_ofNat]; omega)) en44 rfl rfl rfl rfl ?_
    refine y_call (g_rEncrypt _ _) en28 rfl rfl rfl rfl ?_
    refine y_call (g_rXor _ _) en57 rfl rfl rfl rfl ?_
    refine y_alloc 0 tyZ23 rfl rfl rfl rfl ?_
    refine y_stA 0 tyA23 rfl rfl rfl rfl (by first | rfl | exact kc_len _ | exact kcf_len _ | (simp; done)) (by first | exact kc_one _ | exact kcf_one _ | (simp [Value.oneCell']; done)) ?_
    refine y_end ?_
    refine y_made ?_
    rintro _ _ ⟨g2, rfl, rfl, -⟩
    intro W hW
    refine n_then ?_
    refine c_seq ?_
    refine c_reg ?_
    refine l_val (r_assign (v := .int _ _) rfl rfl) rfl rfl ?_
    refine l_end ?_
    refine n_then ?_
    refine c_block ?_
    refine c_loop (fun (x : Nat × Nat × Option Addr × Nat × List Blk) (j : Nat → Value) => [keyV k, U64 m, .slice a l.length c, .pointer (some ⟨g1, 0, none⟩), j 4, j 5, j 6, .int .i64 0, .slice x.2.2.1 x.2.1 x.2.2.2.1, .int .i64 (i : Int), .pointer (some ⟨g2, 0, none⟩), .int .i64 (x.1 : Int), .slice a l.length c, j 13, .bool false, .int .i64 (i : Int), .slice a l.length c, j 17, .bool true, j 19, j 20, .slice a l.length c, .int .i64 (i : Int), j 23, j 24, .int .i64 (i : Int), j 26, U64 m, j 28, j 29, j 30, j 31, j 32, j 33, j 34, j 35, j 36, j 37, j 38, j 39, j 40, j 41, j 42, j 43, j 44, j 45, j 46, j 47, j 48, j 49, j 50]) (fun (x : Nat × Nat × Option Addr × Nat × List Blk) => [⟨g2, kc (xorK (portion l i) (enc k (blk 1 (BitVec.ofNat 64 i) m))), 23⟩, ⟨g1, kc k, 23⟩] ++ x.2.2.2.2) (fun (x : Nat × Nat × Option Addr × Nat × List Blk) => x.1 ≤ 16 ∧ x.2.1 = 16 * i + x.1 ∧ x.2.1 ≤ l.length ∧ OwnSl 5 1 x.2.2.1 x.2.1 x.2.2.2.1 (bl ((stream k m l).take x.2.1)) x.2.2.2.2) (fun (x : Nat × Nat × Option Addr × Nat × List Blk) => 16 - x.1) (0, n1, a1, c1, Bs1) (by kernel_rfl) hW ⟨Nat.zero_le _, by show n1 = 16 * i + 0; omega, by show n1 ≤ _; omega, hO⟩ ?_
    intro x j W hx hW
    obtain ⟨j1, n2, a2, c2, Bs2⟩ := x
    have hj : j1 ≤ 16 := hx.1
    have hn2 : n2 = 16 * i + j1 := hx.2.1
    have hn3 : n2 ≤ l.length := hx.2.2.1
    have hO2 : OwnSl 5 1 a2 n2 c2 (bl ((stream k m l).take n2)) Bs2 := hx.2.2.2
    replace hW : Cl (base w) ([⟨g2, kc (xorK (portion l i) (enc k (blk 1 (BitVec.ofNat 64 i) m))), 23⟩, ⟨g1, kc k, 23⟩] ++ Bs2) W := hW
    refine c_seq ?_
    refine c_seq ?_
    refine c_reg ?_
    refine l_val (r_move (v := .int _ _) rfl rfl) rfl rfl ?_
    refine l_val (r_lssN (n := 16) rfl rfl rfl rfl) rfl rfl ?_
    refine l_split ?_ ?_
    · intro hc2
      replace hc2 := of_decide_eq_true hc2
      refine l_val (r_move (v := .bool _) rfl rfl) rfl rfl ?_
      refine l_valG (r_move (v := .int _ _) rfl rfl) (by kernel_rfl) rfl ?_
      refine l_valG (r_mulN (m := 16) (n := i) rfl rfl rfl (by omega)) (by kernel_rfl) rfl ?_
      refine l_valG (r_move (v := .int _ _) rfl rfl) (by kernel_rfl) rfl ?_
      refine l_valG (r_addN (m := 16 * i) (n := j1) rfl rfl rfl (by omega)) (by kernel_rfl) rfl ?_
      refine l_valG (r_move (v := .slice _ _ _) rfl rfl) (by kernel_rfl) rfl ?_
      refine l_valG (r_lenSlice Try.underlying37 rfl rfl) (by kernel_rfl) rfl ?_
      refine l_valG (r_lssN rfl rfl rfl rfl) (by kernel_rfl) rfl ?_
      refine l_split ?_ ?_
      · intro hc3
        replace hc3 := of_decide_eq_true hc3
        refine l_val (r_pick (v := .bool _) rfl rfl rfl) rfl rfl ?_
        refine l_end ?_
        refine n_then ?_
        refine c_true rfl ?_
        refine c_skip ?_
        refine n_then ?_
        refine c_seq ?_
        refine c_block ?_
        refine c_reg ?_
        refine l_val (r_move (v := .slice _ _ _) rfl rfl) rfl rfl ?_
        refine l_val (r_move (v := .int _ _) rfl rfl) rfl rfl ?_
        refine l_val (r_indexAddrArr1 Try.underlying23 tyC5.size rfl rfl rfl (by omega)) rfl rfl ?_
        refine l_loadC hW 0 tyC5 rfl rfl rfl rfl rfl (kc_get _ _ (by omega)) ?_
        refine l_buildSlice1 (v := .int _ _) hW Try.underlying37 tyC5 tyZ5 rfl rfl rfl rfl rfl ?_
        intro gr W hW
        have hs := stream_step k m l (i := i) (j := j1) (by omega) (by omega)
        rw [← hn2] at hs
        refine l_appendO tyE37 (L := [_, _]) hO2 (OwnSl.full (g := gr) (n := 1) (vs := [B8 (byt (xorK (portion l i) (enc k (blk 1 (BitVec.ofNat 64 i) m))) j1)]) rfl (by decide)) (hW.perm (List.perm_append_singleton _ _).symm) (N := n2 + 1) rfl rfl rfl rfl rfl rfl (bl_one [_]) (by unfold maxLen; omega) (by omega) ?_
        intro a3 c3 Bs3 W hO3 hW
        rw [hs] at hO3
        refine l_val (r_assign (v := .slice _ _ _) rfl rfl) rfl rfl ?_
        refine l_end ?_
        refine n_block ?_
        refine n_then ?_
        refine c_reg ?_
        refine l_val (r_move (v := .int _ _) rfl rfl) rfl rfl ?_
        refine l_val (r_addN (n := 1) rfl rfl rfl (by omega)) rfl rfl ?_
        refine l_val (r_assign (v := .int _ _) rfl rfl) rfl rfl ?_
        refine l_end ?_
        refine n_then ?_
        exact loop_next (j1 + 1, n2 + 1, a3, c3, Bs3) (by kernel_rfl) hW ⟨by show j1 + 1 ≤ _; omega, by show n2 + 1 = 16 * i + (j1 + 1); omega, by show n2 + 1 ≤ _; omega, hO3⟩ (by show 16 - (j1 + 1) < 16 - j1; omega)
      · intro hc3
        replace hc3 := of_decide_eq_false hc3
        refine l_val (r_pick (v := .bool _) rfl rfl rfl) rfl rfl ?_
        refine l_end ?_
        refine n_then ?_
        refine c_false rfl ?_
        refine c_exit ?_
        refine x_then ?_
        refine x_then ?_
        refine x_hit ?_
        refine n_block ?_
        refine n_then ?_
        refine c_reg ?_
        refine l_val (r_move (v := .int _ _) rfl rfl) rfl rfl ?_
        refine l_val (r_addN (n := 1) rfl rfl rfl (by omega)) rfl rfl ?_
        refine l_val (r_assign (v := .int _ _) rfl rfl) rfl rfl ?_
        refine l_end ?_
        refine n_then ?_
        exact loop_next (i + 1, n2, a2, c2, Bs2) (by kernel_rfl) (hW.drop 1) ⟨by show i + 1 ≤ _; omega, by show n2 = min (16 * (i + 1)) _; omega, hO2⟩ (by show nport l.length - (i + 1) < nport l.length - i; omega)
    · intro hc2
      replace hc2 := of_decide_eq_false hc2
      refine l_val (r_move (v := .bool _) rfl rfl) rfl rfl ?_
      refine l_not (by kernel_rfl) rfl ?_
      refine l_not (by kernel_rfl) rfl ?_
      refine l_not (by kernel_rfl) rfl ?_
      refine l_not (by kernel_rfl) rfl ?_
      refine l_not (by kernel_rfl) rfl ?_
      refine l_not (by kernel_rfl) rfl ?_
      refine l_not (by kernel_rfl) rfl ?_
      refine l_val (r_pick (v := .bool _) rfl rfl rfl) rfl rfl ?_
      refine l_end ?_
      refine n_then ?_
      refine c_false rfl ?_
      refine c_exit ?_
      refine x_then ?_
      refine x_then ?_
      refine x_hit ?_
      refine n_block ?_
      refine n_then ?_
      refine c_reg ?_
      refine l_val (r_move (v := .int _ _) rfl rfl) rfl rfl ?_
      refine l_val (r_addN (n := 1) rfl rfl rfl (by omega)) rfl rfl ?_
      refine l_val (r_assign (v := .int _ _) rfl rfl) rfl rfl ?_
      refine l_end ?_
      refine n_then ?_
      exact loop_next (i + 1, n2, a2, c2, Bs2) (by kernel_rfl) (hW.drop 1) ⟨by show i + 1 ≤ _; omega, by show n2 = min (16 * (i + 1)) _; omega, hO2⟩ (by show nport l.length - (i + 1) < nport l.length - i; omega)
  · intro hc1
    replace hc1 := of_decide_eq_false hc1
    obtain rfl : n1 = l.length := by omega
    rw [List.take_of_length_le (by rw [stream_len]; exact Nat.le_refl _)] at hO
    refine l_end ?_
    refine n_then ?_
    refine c_false rfl ?_
    refine c_exit ?_
    refine x_then ?_
    refine x_then ?_
    refine x_hit ?_
    refine n_then ?_
    refine c_seq ?_
    refine c_reg ?_
    refine l_val (r_move (v := .slice _ _ _) rfl rfl) rfl rfl ?_
    refine l_val (r_assign (v := .slice _ _ _) rfl rfl) rfl rfl ?_
    refine l_val (r_assign (v := .int _ _) rfl rfl) rfl rfl ?_
    refine l_end ?_
    refine n_then ?_
    refine c_ret ?_
    refine ret_tmp2 rfl rfl rfl ?_
    exact ⟨_, Bs1, rfl, ⟨_, rfl, _, _, rfl, hO⟩, hW.drop 1⟩

end Go.Proofs.Ytlabfinhdidmaaa
