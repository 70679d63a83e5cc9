/- Texts of blocks. -/
import Derived.Test.YtlabfinhdidmaaaFacts
import Derived.Test.YtlabfinhdidmaaaVals
import Derived.Test.YtlabfinhdidmaaaC16
import Derived.Test.YtlabfinhdidmaaaVals4
namespace Go.Proofs.Ytlabfinhdidmaaa
open Go.RowKit Pl

set_option maxRecDepth 10000 in
/-- headend/cipher.Text -/
theorem g_Text (k : Kw) : Gives Try.prog 21 [keyV k].toArray (strV (text k)) := by
  refine gives_of Try.func21 rfl (bs := [keyV k, undef, undef, undef, undef, undef, undef, undef, undef, undef, undef, undef, undef, undef, undef, undef, undef, undef, undef, undef, undef, undef]) rfl ?_
  intro w hW
  refine c_seq ?_
  refine c_reg ?_
  refine l_box hW rfl rfl rfl rfl ?_
  intro g1 W hW
  refine l_val (r_assign (v := .string _) rfl rfl) rfl rfl ?_
  refine l_end ?_
  refine n_then ?_
  refine c_seq ?_
  refine c_reg ?_
  refine l_val (r_assign (v := .slice _ _ _) rfl rfl) rfl rfl ?_
  refine l_end ?_
  refine n_then ?_
  refine c_seq ?_
  refine c_seq ?_
  refine c_reg ?_
  refine l_loadA hW 0 tyA23 rfl rfl rfl rfl rfl (by first | rfl | exact kc_len _ | exact kcf_len _ | (simp; done)) ?_
  refine l_val (r_move (v := .int _ _) rfl rfl) rfl rfl ?_
  refine l_end ?_
  refine n_then ?_
  refine c_block ?_
  refine c_loop (fun (x : Nat × Nat × Option Addr × Nat × List Blk) (j : Nat → Value) => [keyV k, .pointer (some ⟨g1, 0, none⟩), j 2, .slice x.2.2.1 x.2.1 x.2.2.2.1, j 4, j 5, keyV k, .int .i64 (x.1 : Int), j 8, j 9, j 10, j 11, j 12, j 13, j 14, j 15, j 16, j 17, j 18, j 19, j 20, j 21]) (fun (x : Nat × Nat × Option Addr × Nat × List Blk) => [⟨g1, kc k, 23⟩] ++ x.2.2.2.2) (fun (x : Nat × Nat × Option Addr × Nat × List Blk) => x.1 ≤ 16 ∧ x.2.1 = 2 * x.1 ∧ OwnSl 5 1 x.2.2.1 x.2.1 x.2.2.2.1 (bl (textTo k x.1)) x.2.2.2.2) (fun (x : Nat × Nat × Option Addr × Nat × List Blk) => 16 - x.1) (0, 0, none, 0, []) (by kernel_rfl) hW ⟨Nat.zero_le _, rfl, OwnSl.nil 5 1⟩ ?_
  intro x j W hx hW
  obtain ⟨i, n1, a1, c1, Bs1⟩ := x
  have hi : i ≤ 16 := hx.1
  have hn1 : n1 = 2 * i := hx.2.1
  have hO : OwnSl 5 1 a1 n1 c1 (bl (textTo k i)) Bs1 := hx.2.2
  replace hW : Cl (base w) ([⟨g1, kc k, 23⟩] ++ Bs1) W := hW
  refine c_seq ?_
  refine c_reg ?_
  refine l_val (r_lssN (n := 16) rfl rfl rfl rfl) rfl rfl ?_
  refine l_split ?_ ?_
  · intro hc1
    replace hc1 := of_decide_eq_true hc1
    refine l_end ?_
    refine n_then ?_
    refine c_seq ?_
    refine c_true rfl ?_
    refine c_skip ?_
    refine n_then ?_
    refine c_seq ?_
    refine c_block ?_
    refine c_seq ?_
    refine c_reg ?_
    refine l_val (r_indexArr (n := i) Try.underlying23 tyC5 rfl rfl rfl (by omega) (kc_get k i (by omega))) rfl rfl ?_
    refine l_val (r_assign (v := .int _ _) rfl rfl) rfl rfl ?_
    refine l_end ?_
    refine n_then ?_
    refine c_regM hW [] [.q, .q, .q, .q, .q, .q, .q, .mk 0, .tail, .tail] [⟨17, bslX 5 2⟩] [[B8 (dig ((byt k i).toNat / 16)), B8 (dig ((byt k i).toNat % 16))]] [7] [0, 0, 2, 6, 0, 16, 48, 126, 255, 511] (by kernel_rfl) (by kernel_rfl) rfl (by kernel_rfl) ?_
    refine y_val (r_move (v := .slice _ _ _) rfl rfl) rfl rfl ?_
    refine y_val (r_move (v := .int _ _) rfl rfl) rfl rfl ?_
    refine y_val (r_shr_u8 (s := 4) rfl rfl rfl (by omega)) rfl rfl ?_
    refine y_val (r_indexStrV (l := digs) Try.underlying9 rfl rfl rfl (dig_shr _)) rfl rfl ?_
    refine y_val (r_move (v := .int _ _) rfl rfl) rfl rfl ?_
    refine y_val (r_and_u8 (y := 15#8) rfl rfl rfl) rfl rfl ?_
    refine y_val (r_indexStrV (l := digs) Try.underlying9 rfl rfl rfl (dig_and _)) rfl rfl ?_
    refine y_buildSliceF 0 (bsl37_2_0_1 _ _) rfl rfl rfl rfl ?_
    refine y_tail ?_
    refine y_made ?_
    rintro _ _ ⟨gr, rfl, rfl⟩
    intro W hW
    refine l_appendO tyE37 (L := [_]) hO (OwnSl.full (g := gr) (n := 2) (vs := [B8 (dig ((byt k i).toNat / 16)), B8 (dig ((byt k i).toNat % 16))]) rfl (by decide)) (hW.perm (List.perm_append_singleton _ _).symm) (N := n1 + 2) rfl rfl rfl rfl rfl rfl (bl_one [_, _]) (by unfold maxLen; omega) (by omega) ?_
    intro a2 c2 Bs2 W hO2 hW
    rw [text_step] at hO2
    refine l_val (r_assign (v := .slice _ _ _) rfl rfl) rfl rfl ?_
    refine l_end ?_
    refine n_block ?_
    refine n_then ?_
    refine c_reg ?_
    refine l_val (r_addN (n := 1) rfl rfl rfl (by omega)) rfl rfl ?_
    refine l_val (r_move (v := .int _ _) rfl rfl) rfl rfl ?_
    refine l_end ?_
    refine n_then ?_
    exact loop_next (i + 1, n1 + 2, a2, c2, Bs2) (by kernel_rfl) hW ⟨by show i + 1 ≤ _; omega, by show n1 + 2 = 2 * (i + 1); omega, hO2⟩ (by show 16 - (i + 1) < 16 - i; omega)
  · intro hc1
    replace hc1 := of_decide_eq_false hc1
    obtain rfl : i = 16 := by omega
    obtain rfl : n1 = 32 := by omega
    refine l_end ?_
    refine n_then ?_
    refine c_seq ?_
    refine c_false rfl ?_
    refine c_exit ?_
    refine x_then ?_
    refine x_then ?_
    refine x_hit ?_
    refine n_then ?_
    refine c_seq ?_
    refine c_reg ?_
    refine l_val (r_move (v := .slice _ _ _) rfl rfl) rfl rfl ?_
    refine l_toStr Try.underlying37 Try.underlying5 Try.underlying9 (hO.rd hW) (textTo_len k 16) (fun h => (hO.nilOf h).1) rfl rfl rfl rfl ?_
    refine l_val (r_assign (v := .string _) rfl rfl) rfl rfl ?_
    refine l_end ?_
    refine n_then ?_
    refine c_ret ?_
    refine ret_tmp (v := strV (text k)) rfl ?_ ⟨rfl, hW.below⟩
    rfl

set_option maxRecDepth 10000 in
/-- headend/headendref02.Text -/
theorem g_rText (k : Kw) : Gives Try.prog 22 [keyV k].toArray (strV (text k)) := by
  refine gives_of Try.func22 rfl (bs := [keyV k, undef, undef, undef, undef, undef, undef, undef, undef, undef, undef, undef, undef, undef, undef, undef, undef, undef, undef, undef, undef, undef, undef, undef]) rfl ?_
  intro w hW
  refine c_seq ?_
  refine c_reg ?_
  refine l_box hW rfl rfl rfl rfl ?_
  intro g1 W hW
  refine l_val (r_assign (v := .string _) rfl rfl) rfl rfl ?_
  refine l_end ?_
  refine n_then ?_
  refine c_seq ?_
  refine c_reg ?_
  refine l_val (r_assign (v := .slice _ _ _) rfl rfl) rfl rfl ?_
  refine l_end ?_
  refine n_then ?_
  refine c_seq ?_
  refine c_seq ?_
  refine c_reg ?_
  refine l_val (r_assign (v := .int _ _) rfl rfl) rfl rfl ?_
  refine l_end ?_
  refine n_then ?_
  refine c_block ?_
  refine c_loop (fun (x : Nat × Nat × Option Addr × Nat × List Blk) (j : Nat → Value) => [keyV k, .pointer (some ⟨g1, 0, none⟩), j 2, .slice x.2.2.1 x.2.1 x.2.2.2.1, .int .i64 (x.1 : Int), j 5, j 6, j 7, j 8, j 9, j 10, j 11, j 12, j 13, j 14, j 15, j 16, j 17, j 18, j 19, j 20, j 21, j 22, j 23]) (fun (x : Nat × Nat × Option Addr × Nat × List Blk) => [⟨g1, kc k, 23⟩] ++ x.2.2.2.2) (fun (x : Nat × Nat × Option Addr × Nat × List Blk) => x.1 ≤ 16 ∧ x.2.1 = 2 * x.1 ∧ OwnSl 5 1 x.2.2.1 x.2.1 x.2.2.2.1 (bl (textTo k x.1)) x.2.2.2.2) (fun (x : Nat × Nat × Option Addr × Nat × List Blk) => 16 - x.1) (0, 0, none, 0, []) (by kernel_rfl) hW ⟨Nat.zero_le _, rfl, OwnSl.nil 5 1⟩ ?_
  intro x j W hx hW
  obtain ⟨i, n1, a1, c1, Bs1⟩ := x
  have hi : i ≤ 16 := hx.1
  have hn1 : n1 = 2 * i := hx.2.1
  have hO : OwnSl 5 1 a1 n1 c1 (bl (textTo k i)) Bs1 := hx.2.2
  replace hW : Cl (base w) ([⟨g1, kc k, 23⟩] ++ Bs1) W := hW
  refine c_seq ?_
  refine c_seq ?_
  refine c_reg ?_
  refine l_val (r_move (v := .int _ _) rfl rfl) rfl rfl ?_
  refine l_val (r_lssN (n := 16) rfl rfl rfl rfl) rfl rfl ?_
  refine l_split ?_ ?_
  · intro hc1
    replace hc1 := of_decide_eq_true hc1
    refine l_end ?_
    refine n_then ?_
    refine c_true rfl ?_
    refine c_skip ?_
    refine n_then ?_
    refine c_seq ?_
    refine c_block ?_
    refine c_regM hW [] [.q, .q, .q, .q, .q, .q, .q, .q, .q, .q, .q, .mk 0, .tail, .tail] [⟨20, bslX 5 2⟩] [[B8 (dig ((byt k i).toNat / 16)), B8 (dig ((byt k i).toNat % 16))]] [11] [0, 0, 2, 6, 14, 30, 0, 64, 192, 448, 960, 2046, 4095, 8191] (by kernel_rfl) (by kernel_rfl) rfl (by kernel_rfl) ?_
    refine y_val (r_move (v := .slice _ _ _) rfl rfl) rfl rfl ?_
    refine y_val (r_move (v := .int _ _) rfl rfl) rfl rfl ?_
    refine y_val (r_indexAddrArr1 Try.underlying23 tyC5.size rfl rfl rfl (by omega)) rfl rfl ?_
    refine y_loadC 0 tyC5 rfl rfl rfl rfl rfl (kc_get k i (by omega)) (by decide) ?_
    refine y_val (r_quo_u8 (y := 16#8) rfl rfl rfl (by decide)) rfl rfl ?_
    refine y_val (r_indexStrV (l := digs) Try.underlying9 rfl rfl rfl (dig_quo _)) rfl rfl ?_
    refine y_val (r_move (v := .int _ _) rfl rfl) rfl rfl ?_
    refine y_val (r_indexAddrArr1 Try.underlying23 tyC5.size rfl rfl rfl (by omega)) rfl rfl ?_
    refine y_loadC 0 tyC5 rfl rfl rfl rfl rfl (kc_get k i (by omega)) (by decide) ?_
    refine y_val (r_rem_u8 (y := 16#8) rfl rfl rfl (by decide)) rfl rfl ?_
    refine y_val (r_indexStrV (l := digs) Try.underlying9 rfl rfl rfl (dig_rem _)) rfl rfl ?_
    refine y_buildSliceF 0 (bsl37_2_0_1 _ _) rfl rfl rfl rfl ?_
    refine y_tail ?_
    refine y_made ?_
    rintro _ _ ⟨gr, rfl, rfl⟩
    intro W hW
    refine l_appendO tyE37 (L := [_]) hO (OwnSl.full (g := gr) (n := 2) (vs := [B8 (dig ((byt k i).toNat / 16)), B8 (dig ((byt k i).toNat % 16))]) rfl (by decide)) (hW.perm (List.perm_append_singleton _ _).symm) (N := n1 + 2) rfl rfl rfl rfl rfl rfl (bl_one [_, _]) (by unfold maxLen; omega) (by omega) ?_
    intro a2 c2 Bs2 W hO2 hW
    rw [text_step] at hO2
    refine l_val (r_assign (v := .slice _ _ _) rfl rfl) rfl rfl ?_
    refine l_end ?_
    refine n_block ?_
    refine n_then ?_
    refine c_reg ?_
    refine l_val (r_move (v := .int _ _) rfl rfl) rfl rfl ?_
    refine l_val (r_addN (n := 1) rfl rfl rfl (by omega)) rfl rfl ?_
    refine l_val (r_assign (v := .int _ _) rfl rfl) rfl rfl ?_
    refine l_end ?_
    refine n_then ?_
    exact loop_next (i + 1, n1 + 2, a2, c2, Bs2) (by kernel_rfl) hW ⟨by show i + 1 ≤ _; omega, by show n1 + 2 = 2 * (i + 1); omega, hO2⟩ (by show 16 - (i + 1) < 16 - i; omega)
  · intro hc1
    replace hc1 := of_decide_eq_false hc1
    obtain rfl : i = 16 := by omega
    obtain rfl : n1 = 32 := by omega
    refine l_end ?_
    refine n_then ?_
    refine c_false rfl ?_
    refine c_exit ?_
    refine x_then ?_
    refine x_then ?_
    refine x_hit ?_
    refine n_then ?_
    refine c_seq ?_
    refine c_reg ?_
    refine l_val (r_move (v := .slice _ _ _) rfl rfl) rfl rfl ?_
    refine l_toStr Try.underlying37 Try.underlying5 Try.underlying9 (hO.rd hW) (textTo_len k 16) (fun h => (hO.nilOf h).1) rfl rfl rfl rfl ?_
    refine l_val (r_assign (v := .string _) rfl rfl) rfl rfl ?_
    refine l_end ?_
    refine n_then ?_
    refine c_ret ?_
    refine ret_tmp (v := strV (text k)) rfl ?_ ⟨rfl, hW.below⟩
    rfl

end Go.Proofs.Ytlabfinhdidmaaa
