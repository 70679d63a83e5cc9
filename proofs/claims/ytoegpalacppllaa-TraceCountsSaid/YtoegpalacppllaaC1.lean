/- Rotations: the callee of math/bits. -/
import Derived.Test.YtoegpalacppllaaFacts
import Derived.Test.YtoegpalacppllaaVals
namespace Go.Proofs.Ytoegpalacppllaa
open Go.RowKit Pl

theorem rotL_def (x : W64) (n m : Nat) (hn : n < 64) (hm : m = 64 - n) : x <<< n ||| x >>> m = x.rotateLeft n := by
  subst hm
  rw [BitVec.rotateLeft_def, Nat.mod_eq_of_lt hn]
theorem rotR_def (x : W64) (n m : Nat) (hn : n < 64) (hm : m = 64 - n) : x <<< m ||| x >>> n = x.rotateRight n := by
  subst hm
  rw [BitVec.rotateRight_def, Nat.mod_eq_of_lt hn, BitVec.or_comm]

set_option maxRecDepth 10000 in
/-- math/bits.RotateLeft64 -/
theorem g_rotm8 (x : W64) : Gives Try.prog 121 [U64 x, .int .i64 (-8)].toArray (U64 (x.rotateRight 8)) := by
  refine gives_of Try.func121 rfl (bs := [U64 x, .int .i64 (-8), undef, undef, undef, undef, undef, undef, undef, undef, undef, undef, undef, undef, undef, undef, undef]) rfl ?_
  intro w hW
  refine c_seq ?_
  refine c_reg ?_
  refine l_val (r_assign (v := .int _ _) rfl rfl) rfl rfl ?_
  refine l_end ?_
  refine n_then ?_
  refine c_seq ?_
  refine c_reg ?_
  refine l_val (r_move (v := .int _ _) rfl rfl) rfl rfl ?_
  refine l_val (run_conv Try.underlying3 Try.underlying169 rfl rfl (r := 18446744073709551608) (by decide)) rfl rfl ?_
  refine l_val (r_bits rfl rfl rfl (.inl rfl) (r := 56) (by decide +kernel)) rfl rfl ?_
  refine l_val (r_assign (v := .int _ _) rfl rfl) rfl rfl ?_
  refine l_end ?_
  refine n_then ?_
  refine c_seq ?_
  refine c_reg ?_
  refine l_val (r_move (v := .int _ _) rfl rfl) rfl rfl ?_
  refine l_val (r_move (v := .int _ _) rfl rfl) rfl rfl ?_
  refine l_val (r_shl_u64 (s := 56) rfl rfl rfl (by omega)) rfl rfl ?_
  refine l_val (r_move (v := .int _ _) rfl rfl) rfl rfl ?_
  refine l_val (r_move (v := .int _ _) rfl rfl) rfl rfl ?_
  refine l_val (r_sub rfl rfl rfl (r := 8) (by decide)) rfl rfl ?_
  refine l_val (r_shr_u64 (s := 8) rfl rfl rfl (by omega)) rfl rfl ?_
  refine l_val (r_or_u64 rfl rfl rfl) rfl rfl ?_
  refine l_val (r_assign (v := .int _ _) rfl rfl) rfl rfl ?_
  refine l_end ?_
  refine n_then ?_
  refine c_ret ?_
  refine ret_tmp (v := U64 (x.rotateRight 8)) rfl ?_ ⟨rfl, hW.below⟩
  rw [← rotR_def x 8 56 (by omega) rfl]; rfl

set_option maxRecDepth 10000 in
/-- math/bits.RotateLeft64 -/
theorem g_rot3 (x : W64) : Gives Try.prog 121 [U64 x, .int .i64 (3)].toArray (U64 (x.rotateLeft 3)) := by
  refine gives_of Try.func121 rfl (bs := [U64 x, .int .i64 (3), undef, undef, undef, undef, undef, undef, undef, undef, undef, undef, undef, undef, undef, undef, undef]) rfl ?_
  intro w hW
  refine c_seq ?_
  refine c_reg ?_
  refine l_val (r_assign (v := .int _ _) rfl rfl) rfl rfl ?_
  refine l_end ?_
  refine n_then ?_
  refine c_seq ?_
  refine c_reg ?_
  refine l_val (r_move (v := .int _ _) rfl rfl) rfl rfl ?_
  refine l_val (run_conv Try.underlying3 Try.underlying169 rfl rfl (r := 3) (by decide)) rfl rfl ?_
  refine l_val (r_bits rfl rfl rfl (.inl rfl) (r := 3) (by decide +kernel)) rfl rfl ?_
  refine l_val (r_assign (v := .int _ _) rfl rfl) rfl rfl ?_
  refine l_end ?_
  refine n_then ?_
  refine c_seq ?_
  refine c_reg ?_
  refine l_val (r_move (v := .int _ _) rfl rfl) rfl rfl ?_
  refine l_val (r_move (v := .int _ _) rfl rfl) rfl rfl ?_
  refine l_val (r_shl_u64 (s := 3) rfl rfl rfl (by omega)) rfl rfl ?_
  refine l_val (r_move (v := .int _ _) rfl rfl) rfl rfl ?_
  refine l_val (r_move (v := .int _ _) rfl rfl) rfl rfl ?_
  refine l_val (r_sub rfl rfl rfl (r := 61) (by decide)) rfl rfl ?_
  refine l_val (r_shr_u64 (s := 61) rfl rfl rfl (by omega)) rfl rfl ?_
  refine l_val (r_or_u64 rfl rfl rfl) rfl rfl ?_
  refine l_val (r_assign (v := .int _ _) rfl rfl) rfl rfl ?_
  refine l_end ?_
  refine n_then ?_
  refine c_ret ?_
  refine ret_tmp (v := U64 (x.rotateLeft 3)) rfl ?_ ⟨rfl, hW.below⟩
  rw [← rotL_def x 3 61 (by omega) rfl]; rfl

set_option maxRecDepth 10000 in
/-- math/bits.RotateLeft64 -/
theorem g_rot8 (x : W64) : Gives Try.prog 121 [U64 x, .int .i64 (8)].toArray (U64 (x.rotateLeft 8)) := by
  refine gives_of Try.func121 rfl (bs := [U64 x, .int .i64 (8), undef, undef, undef, undef, undef, undef, undef, undef, undef, undef, undef, undef, undef, undef, undef]) rfl ?_
  intro w hW
  refine c_seq ?_
  refine c_reg ?_
  refine l_val (r_assign (v := .int _ _) rfl rfl) rfl rfl ?_
  refine l_end ?_
  refine n_then ?_
  refine c_seq ?_
  refine c_reg ?_
  refine l_val (r_move (v := .int _ _) rfl rfl) rfl rfl ?_
  refine l_val (run_conv Try.underlying3 Try.underlying169 rfl rfl (r := 8) (by decide)) rfl rfl ?_
  refine l_val (r_bits rfl rfl rfl (.inl rfl) (r := 8) (by decide +kernel)) rfl rfl ?_
  refine l_val (r_assign (v := .int _ _) rfl rfl) rfl rfl ?_
  refine l_end ?_
  refine n_then ?_
  refine c_seq ?_
  refine c_reg ?_
  refine l_val (r_move (v := .int _ _) rfl rfl) rfl rfl ?_
  refine l_val (r_move (v := .int _ _) rfl rfl) rfl rfl ?_
  refine l_val (r_shl_u64 (s := 8) rfl rfl rfl (by omega)) rfl rfl ?_
  refine l_val (r_move (v := .int _ _) rfl rfl) rfl rfl ?_
  refine l_val (r_move (v := .int _ _) rfl rfl) rfl rfl ?_
  refine l_val (r_sub rfl rfl rfl (r := 56) (by decide)) rfl rfl ?_
  refine l_val (r_shr_u64 (s := 56) rfl rfl rfl (by omega)) rfl rfl ?_
  refine l_val (r_or_u64 rfl rfl rfl) rfl rfl ?_
  refine l_val (r_assign (v := .int _ _) rfl rfl) rfl rfl ?_
  refine l_end ?_
  refine n_then ?_
  refine c_ret ?_
  refine ret_tmp (v := U64 (x.rotateLeft 8)) rfl ?_ ⟨rfl, hW.below⟩
  rw [← rotL_def x 8 56 (by omega) rfl]; rfl

set_option maxRecDepth 10000 in
/-- math/bits.RotateLeft64 -/
theorem g_rotm3 (x : W64) : Gives Try.prog 121 [U64 x, .int .i64 (-3)].toArray (U64 (x.rotateRight 3)) := by
  refine gives_of Try.func121 rfl (bs := [U64 x, .int .i64 (-3), undef, undef, undef, undef, undef, undef, undef, undef, undef, undef, undef, undef, undef, undef, undef]) rfl ?_
  intro w hW
  refine c_seq ?_
  refine c_reg ?_
  refine l_val (r_assign (v := .int _ _) rfl rfl) rfl rfl ?_
  refine l_end ?_
  refine n_then ?_
  refine c_seq ?_
  refine c_reg ?_
  refine l_val (r_move (v := .int _ _) rfl rfl) rfl rfl ?_
  refine l_val (run_conv Try.underlying3 Try.underlying169 rfl rfl (r := 18446744073709551613) (by decide)) rfl rfl ?_
  refine l_val (r_bits rfl rfl rfl (.inl rfl) (r := 61) (by decide +kernel)) rfl rfl ?_
  refine l_val (r_assign (v := .int _ _) rfl rfl) rfl rfl ?_
  refine l_end ?_
  refine n_then ?_
  refine c_seq ?_
  refine c_reg ?_
  refine l_val (r_move (v := .int _ _) rfl rfl) rfl rfl ?_
  refine l_val (r_move (v := .int _ _) rfl rfl) rfl rfl ?_
  refine l_val (r_shl_u64 (s := 61) rfl rfl rfl (by omega)) rfl rfl ?_
  refine l_val (r_move (v := .int _ _) rfl rfl) rfl rfl ?_
  refine l_val (r_move (v := .int _ _) rfl rfl) rfl rfl ?_
  refine l_val (r_sub rfl rfl rfl (r := 3) (by decide)) rfl rfl ?_
  refine l_val (r_shr_u64 (s := 3) rfl rfl rfl (by omega)) rfl rfl ?_
  refine l_val (r_or_u64 rfl rfl rfl) rfl rfl ?_
  refine l_val (r_assign (v := .int _ _) rfl rfl) rfl rfl ?_
  refine l_end ?_
  refine n_then ?_
  refine c_ret ?_
  refine ret_tmp (v := U64 (x.rotateRight 3)) rfl ?_ ⟨rfl, hW.below⟩
  rw [← rotR_def x 3 61 (by omega) rfl]; rfl

end Go.Proofs.Ytoegpalacppllaa
