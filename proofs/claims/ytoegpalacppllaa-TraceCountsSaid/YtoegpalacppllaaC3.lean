/- References of layer 2: numbers in bytes. -/
import Derived.Test.YtoegpalacppllaaFacts
import Derived.Test.YtoegpalacppllaaVals
import Derived.Test.YtoegpalacppllaaC2
namespace Go.Proofs.Ytoegpalacppllaa
open Go.RowKit Pl

set_option maxRecDepth 10000 in
/-- headend/headendref02.Value -/
theorem g_Value (g i n c : Nat) (f : Nat → BitVec 8) (hn : n ≤ 4294967296) : GivesR Try.prog 110 [.slice (some ⟨g, i, none⟩) n c].toArray (fun w => ∀ j, j < n → w.cell? ⟨g, i + j, none⟩ = some (B8 (f j))) (U64 (valTo f n)) := by
  refine givesR_of Try.func110 rfl (bs := [.slice (some ⟨g, i, none⟩) n c, undef, undef, undef, undef, undef, undef, undef, undef, undef, undef, undef, undef, undef, undef, undef, undef, undef, undef, undef]) rfl ?_
  intro w hP hW
  refine c_seq ?_
  refine c_reg ?_
  refine l_val (r_assign (v := .int _ _) rfl rfl) rfl rfl ?_
  refine l_end ?_
  refine n_then ?_
  refine c_seq ?_
  refine c_reg ?_
  refine l_val (r_assign (v := .int _ _) rfl rfl) rfl rfl ?_
  refine l_end ?_
  refine n_then ?_
  refine c_seq ?_
  refine c_seq ?_
  refine c_reg ?_
  refine l_val (r_assign (v := .int _ _) rfl rfl) rfl rfl ?_
  refine l_end ?_
  refine n_then ?_
  refine c_block ?_
  refine c_loop (fun (k : Nat) (j : Nat → Value) => [.slice (some ⟨g, i, none⟩) n c, j 1, .int .u64 0, U64 (valTo f k), .int .i64 (k : Int), j 5, j 6, j 7, j 8, j 9, j 10, j 11, j 12, j 13, j 14, j 15, j 16, j 17, j 18, j 19]) (fun (k : Nat) => []) (fun (k : Nat) => k ≤ n) (fun (k : Nat) => n - k) 0 (by kernel_rfl) hW (by omega) ?_
  intro k j W hx hW
  rcases Nat.lt_or_ge k n with h8 | h8
  · skip
    refine c_seq ?_
    refine c_seq ?_
    refine c_reg ?_
    refine l_val (r_move (v := .int _ _) rfl rfl) rfl rfl ?_
    refine l_val (r_move (v := .slice _ _ _) rfl rfl) rfl rfl ?_
    refine l_val (r_lenSlice Try.underlying172 rfl rfl) rfl rfl ?_
    refine l_val (r_lssN (b := true) rfl rfl rfl (decide_eq_true (by omega))) rfl rfl ?_
    refine l_end ?_
    refine n_then ?_
    refine c_true rfl ?_
    refine c_skip ?_
    refine n_then ?_
    refine c_seq ?_
    refine c_block ?_
    refine c_reg ?_
    refine l_val (r_move (v := .int _ _) rfl rfl) rfl rfl ?_
    refine l_val (r_mul_u64 (x := 256#64) rfl rfl rfl) rfl rfl ?_
    refine l_val (r_move (v := .slice _ _ _) rfl rfl) rfl rfl ?_
    refine l_val (r_move (v := .int _ _) rfl rfl) rfl rfl ?_
    refine l_val (r_indexAddrSl2 Try.underlying172 tyC5.size rfl rfl rfl (by omega)) rfl rfl ?_
    refine l_loadF hW tyC5 (hP k (by omega)) rfl rfl rfl rfl ?_
    refine l_val (r_conv_u8_u64 Try.underlying5 Try.underlying22 rfl rfl) rfl rfl ?_
    refine l_val (r_add_u64 rfl rfl rfl) rfl rfl ?_
    refine l_val (r_assign (v := .int _ _) rfl rfl) rfl rfl ?_
    refine l_end ?_
    refine n_block ?_
    refine n_then ?_
    refine c_reg ?_
    refine l_val (r_move (v := .int _ _) rfl rfl) rfl rfl ?_
    refine l_val (r_addN (n := 1) rfl rfl rfl (by omega)) rfl rfl ?_
    refine l_val (r_assign (v := .int _ _) rfl rfl) rfl rfl ?_
    refine l_end ?_
    refine n_then ?_
    exact loop_next (k + 1) (by kernel_rfl) hW (by omega) (by omega)
  · skip
    obtain rfl : n = k := by omega
    refine c_seq ?_
    refine c_seq ?_
    refine c_reg ?_
    refine l_val (r_move (v := .int _ _) rfl rfl) rfl rfl ?_
    refine l_val (r_move (v := .slice _ _ _) rfl rfl) rfl rfl ?_
    refine l_val (r_lenSlice Try.underlying172 rfl rfl) rfl rfl ?_
    refine l_val (r_lssN (b := false) rfl rfl rfl (decide_eq_false (by omega))) rfl rfl ?_
    refine l_end ?_
    refine n_then ?_
    refine c_false rfl ?_
    refine c_exit ?_
    refine x_then ?_
    refine x_then ?_
    refine x_hit ?_
    refine n_then ?_
    refine c_seq ?_
    refine c_reg ?_
    refine l_val (r_move (v := .int _ _) rfl rfl) rfl rfl ?_
    refine l_val (r_assign (v := .int _ _) rfl rfl) rfl rfl ?_
    refine l_end ?_
    refine n_then ?_
    refine c_ret ?_
    refine ret_tmp (v := U64 (valTo f n)) rfl ?_ ⟨rfl, hW.below⟩
    rfl

set_option maxRecDepth 10000 in
/-- headend/headendref02.Bytes -/
theorem g_Bytes (n : W64) (m : Nat) (hm : m ≤ 4294967296) : GivesX Try.prog 123 [U64 n, .int .i64 (m : Int)].toArray (fun _ => True) (NewSl 5 1 m (bl (lowB n m))) := by
  refine givesX_of Try.func123 rfl (bs := [U64 n, .int .i64 (m : Int), undef, undef, undef, undef, undef, undef, undef, undef, undef, undef, undef, undef, undef, undef, undef, undef, undef, undef, undef]) rfl ?_
  intro w hP hW
  refine c_seq ?_
  refine c_reg ?_
  refine l_val (r_assign (v := .slice _ _ _) rfl rfl) rfl rfl ?_
  refine l_end ?_
  refine n_then ?_
  refine c_seq ?_
  refine c_reg ?_
  refine l_val (r_assign (v := .slice _ _ _) rfl rfl) rfl rfl ?_
  refine l_end ?_
  refine n_then ?_
  refine c_seq ?_
  refine c_seq ?_
  refine c_reg ?_
  refine l_val (r_assign (v := .int _ _) rfl rfl) rfl rfl ?_
  refine l_end ?_
  refine n_then ?_
  refine c_block ?_
  refine c_loop (fun (x : Nat × Option Addr × Nat × List Blk) (j : Nat → Value) => [U64 (dn n x.1), .int .i64 (m : Int), j 2, j 3, j 4, .slice x.2.1 x.1 x.2.2.1, .int .i64 (x.1 : Int), j 7, j 8, j 9, j 10, j 11, j 12, j 13, j 14, j 15, j 16, j 17, j 18, j 19, j 20]) (fun (x : Nat × Option Addr × Nat × List Blk) => [] ++ x.2.2.2) (fun (x : Nat × Option Addr × Nat × List Blk) => x.1 ≤ m ∧ OwnSl 5 1 x.2.1 x.1 x.2.2.1 (bl (lowB n x.1)) x.2.2.2) (fun (x : Nat × Option Addr × Nat × List Blk) => m - x.1) (0, none, 0, []) (by kernel_rfl) hW ⟨Nat.zero_le _, OwnSl.nil 5 1⟩ ?_
  intro x j W hx hW
  obtain ⟨hx, hO⟩ := hx
  rcases Nat.lt_or_ge x.1 m with h8 | h8
  · skip
    refine c_seq ?_
    refine c_seq ?_
    refine c_reg ?_
    refine l_val (r_move (v := .int _ _) rfl rfl) rfl rfl ?_
    refine l_val (r_move (v := .int _ _) rfl rfl) rfl rfl ?_
    refine l_val (r_lssN (b := true) rfl rfl rfl (decide_eq_true (by omega))) rfl rfl ?_
    refine l_end ?_
    refine n_then ?_
    refine c_true rfl ?_
    refine c_skip ?_
    refine n_then ?_
    refine c_seq ?_
    refine c_block ?_
    refine c_seq ?_
    refine c_reg ?_
    refine l_val (r_move (v := .int _ _) rfl rfl) rfl rfl ?_
    refine l_val (r_rem_u64 (y := 256#64) rfl rfl rfl (by decide)) rfl rfl ?_
    refine l_val (r_conv_u64_u8 Try.underlying22 Try.underlying5 rfl rfl) rfl rfl ?_
    refine l_buildSlice1 (v := .int _ _) hW Try.underlying172 tyC5 tyZ5 rfl rfl rfl rfl rfl ?_
    intro g1 W hW
    refine l_val (r_move (v := .slice _ _ _) rfl rfl) rfl rfl ?_
    refine l_appendR tyE172 (L := x.2.2.2) (OwnSl.full (g := g1) (n := 1) rfl (by decide)) (hW.perm (List.perm_append_singleton _ _).symm) (OwnSl.rd (L := [_]) hO hW) (N := x.1 + 1) (by omega) rfl rfl rfl rfl rfl ((bl_len _).trans (lowB_len _ _)) hO.nilOf (bl_one _) (by unfold maxLen; omega) (by omega) ?_
    intro a1 c1 Bs1 W hO1 hW
    replace hW := hW.sub (List.sublist_append_right _ _)
    refine l_val (r_assign (v := .slice _ _ _) rfl rfl) rfl rfl ?_
    refine l_end ?_
    refine n_then ?_
    refine c_reg ?_
    refine l_val (r_move (v := .int _ _) rfl rfl) rfl rfl ?_
    refine l_val (r_quo_u64 (y := 256#64) rfl rfl rfl (by decide)) rfl rfl ?_
    refine l_val (r_assign (v := .int _ _) rfl rfl) rfl rfl ?_
    refine l_end ?_
    refine n_block ?_
    refine n_then ?_
    refine c_reg ?_
    refine l_val (r_move (v := .int _ _) rfl rfl) rfl rfl ?_
    refine l_val (r_addN (n := 1) rfl rfl rfl (by omega)) rfl rfl ?_
    refine l_val (r_assign (v := .int _ _) rfl rfl) rfl rfl ?_
    refine l_end ?_
    refine n_then ?_
    exact loop_next (x.1 + 1, a1, c1, Bs1) (by kernel_rfl) hW ⟨by omega, hO1⟩ (by omega)
  · skip
    have e : x.1 = m := by omega
    rw [e] at hO
    refine c_seq ?_
    refine c_seq ?_
    refine c_reg ?_
    refine l_val (r_move (v := .int _ _) rfl rfl) rfl rfl ?_
    refine l_val (r_move (v := .int _ _) rfl rfl) rfl rfl ?_
    refine l_val (r_lssN (b := false) rfl rfl rfl (decide_eq_false (by omega))) rfl rfl ?_
    refine l_end ?_
    refine n_then ?_
    refine c_false rfl ?_
    refine c_exit ?_
    refine x_then ?_
    refine x_then ?_
    refine x_hit ?_
    refine n_then ?_
    refine c_seq ?_
    refine c_reg ?_
    refine l_val (r_move (v := .slice _ _ _) rfl rfl) rfl rfl ?_
    refine l_val (r_assign (v := .slice _ _ _) rfl rfl) rfl rfl ?_
    refine l_end ?_
    refine n_then ?_
    refine c_ret ?_
    refine ret_tmp (v := .slice _ _ _) rfl rfl ?_
    exact ⟨_, _, rfl, ⟨_, _, by rw [e], hO⟩, hW⟩

end Go.Proofs.Ytoegpalacppllaa
