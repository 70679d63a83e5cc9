/- For every key, number, two rows of bytes and an index: the mask does not hang on the bytes, and is the encrypted block of the portion; no conditions. -/
import Derived.Test.YtlabfinhdidmaaaOpen
import Derived.Test.YtlabfinhdidmaaaRows
import Derived.Test.YtlabfinhdidmaaaL9
namespace Go.Proofs.Ytlabfinhdidmaaa
open Go.RowKit Go.ChangeShapes Go.WideShapes Pl

theorem cipherMask_calls (H : Type) (enc : TypeId × Value → H) (W : World) (base : Nat) (args : Array Value) (ds : List (DataW H)) (ps : List MemPlace) (h : Opened enc Try.prog W Try.f16 base args ds ps) :
    Calls Try.prog 16 args W fun e w' => e = .returned (.bool true) ∧ Below W.heap.size W w' := by
  have r0 := h.args (ts := [23, 31, 37, 37, 3]) (by kernel_rfl)
  generalize hl : args.toList = l0 at r0
  obtain ⟨_, l1, rfl, a0, r1⟩ := r0.cons
  obtain ⟨k, rfl⟩ := a0.key tyK23 (by kernel_rfl)
  obtain ⟨_, l2, rfl, a1, r2⟩ := r1.cons
  obtain ⟨n, rfl⟩ := a1.u64 Try.underlying31
  obtain ⟨_, l3, rfl, a2, r3⟩ := r2.cons
  obtain ⟨b_a, b_n, b_c, b, rfl, b_len, b_rd, b_le, b_max, b_nil⟩ := a2.bytes Try.underlying37 Try.underlying5 (by kernel_rfl) (by kernel_rfl)
  obtain ⟨_, l4, rfl, a3, r4⟩ := r3.cons
  obtain ⟨d_a, d_n, d_c, d, rfl, d_len, d_rd, d_le, d_max, d_nil⟩ := a3.bytes Try.underlying37 Try.underlying5 (by kernel_rfl) (by kernel_rfl)
  obtain ⟨_, l5, rfl, a4, r5⟩ := r4.cons
  obtain ⟨z, rfl, z_lo, z_hi⟩ := a4.int Try.underlying3
  obtain rfl := r5.nil
  rw [arr_of hl]
  subst b_len
  subst d_len
  exact g_CipherMask k n b_a b_c b d_a d_c d z b_le d_le W ⟨b_rd, d_rd⟩
set_option maxRecDepth 100000 in
theorem cipherMask_holds : Rows.CipherMaskSaid :=
  OpenClaim.holds_of_wide 16 Try.f16 rfl rfl rfl rfl rfl rfl rfl ⟨rfl, rfl, rfl, rfl, rfl⟩ rfl rfl rfl rfl rfl (by kernel_rfl) Try.func16 (by kernel_rfl)
    (of_decide_eq_true (by kernel_rfl)) (by unfold Func.isWrapper; first | (rw [if_pos (by decide +kernel)]; kernel_rfl) | (rw [if_neg (by decide +kernel)]; exact ⟨rfl, rfl⟩))
    (fun os started H enc _ => law_lifted (C := Try.checked) (s := Rows.cipherMaskSpec) (conds := Rows.cipherMaskRow.domain) 4 (by kernel_rfl) (by kernel_rfl) Try.func16 (by kernel_rfl) (by kernel_rfl) rfl
      (fun H ds hd => match ds, hd with | [_, _, _, _, _], _ => rfl) (by kernel_rfl) Try.underlying4 cipherMask_calls os started H enc
      (ChangeSpec.witness6 (enc := enc) (C := Try.checked) false ⟨#[], #[.agg #[.int .u8 0, .int .u8 0, .int .u8 0, .int .u8 0, .int .u8 0, .int .u8 0, .int .u8 0, .int .u8 0, .int .u8 0, .int .u8 0, .int .u8 0, .int .u8 0, .int .u8 0, .int .u8 0, .int .u8 0, .int .u8 0], .int .u64 0, .slice none 0 0, .slice none 0 0, .int .i64 0], []⟩ 8 (by kernel_rfl) (by kernel_rfl) (by kernel_rfl) (by kernel_rfl)))
#print axioms cipherMask_holds
end Go.Proofs.Ytlabfinhdidmaaa
