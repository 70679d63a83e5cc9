/- For every key, number and all bytes, the stream by the program, or the error, is that of the reference; changing it does not change the bytes; no conditions. -/
import Derived.Test.YtlabfinhdidmaaaOpen
import Derived.Test.YtlabfinhdidmaaaRows
import Derived.Test.YtlabfinhdidmaaaL3
namespace Go.Proofs.Ytlabfinhdidmaaa
open Go.RowKit Go.ChangeShapes Go.WideShapes Pl

theorem cipherStreams_calls (H : Type) (enc : TypeId × Value → H) (W : World) (base : Nat) (args : Array Value) (ds : List (DataW H)) (ps : List MemPlace) (h : Opened enc Try.prog W Try.f6 base args ds ps) :
    Calls Try.prog 6 args W fun e w' => e = .returned (.bool true) ∧ Below W.heap.size W w' := by
  have r0 := h.args (ts := [23, 31, 37]) (by kernel_rfl)
  generalize hl : args.toList = l0 at r0
  obtain ⟨_, l1, rfl, a0, r1⟩ := r0.cons
  obtain ⟨k, rfl⟩ := a0.key tyK23 (by kernel_rfl)
  obtain ⟨_, l2, rfl, a1, r2⟩ := r1.cons
  obtain ⟨n, rfl⟩ := a1.u64 Try.underlying31
  obtain ⟨_, l3, rfl, a2, r3⟩ := r2.cons
  obtain ⟨b_a, b_n, b_c, b, rfl, b_len, b_rd, b_le, b_max, b_nil⟩ := a2.bytes Try.underlying37 Try.underlying5 (by kernel_rfl) (by kernel_rfl)
  obtain rfl := r3.nil
  rw [arr_of hl]
  subst b_len
  by_cases hb : 16384 < b.length
  · exact g_CipherStreamsB k n b_a b_c b b_le b_nil (Nat.le_trans b_le b_max) hb W b_rd
  exact g_CipherStreamsS k n b_a b_c b b_le b_nil (Nat.le_trans b_le b_max) hb W b_rd
set_option maxRecDepth 100000 in
theorem cipherStreams_holds : Rows.CipherStreamsSaid :=
  OpenClaim.holds_of_wide 6 Try.f6 rfl rfl rfl rfl rfl rfl rfl ⟨rfl, rfl, rfl, rfl, rfl⟩ rfl rfl rfl rfl rfl (by kernel_rfl) Try.func6 (by kernel_rfl)
    (of_decide_eq_true (by kernel_rfl)) (by unfold Func.isWrapper; first | (rw [if_pos (by decide +kernel)]; kernel_rfl) | (rw [if_neg (by decide +kernel)]; exact ⟨rfl, rfl⟩))
    (fun os started H enc _ => law_lifted (C := Try.checked) (s := Rows.cipherStreamsSpec) (conds := Rows.cipherStreamsRow.domain) 4 (by kernel_rfl) (by kernel_rfl) Try.func6 (by kernel_rfl) (by kernel_rfl) rfl
      (fun H ds hd => match ds, hd with | [_, _, _], _ => rfl) (by kernel_rfl) Try.underlying4 cipherStreams_calls os started H enc
      (ChangeSpec.witness6 (enc := enc) (C := Try.checked) false ⟨#[], #[.agg #[.int .u8 0, .int .u8 0, .int .u8 0, .int .u8 0, .int .u8 0, .int .u8 0, .int .u8 0, .int .u8 0, .int .u8 0, .int .u8 0, .int .u8 0, .int .u8 0, .int .u8 0, .int .u8 0, .int .u8 0, .int .u8 0], .int .u64 0, .slice none 0 0], []⟩ 8 (by kernel_rfl) (by kernel_rfl) (by kernel_rfl) (by kernel_rfl)))
#print axioms cipherStreams_holds
end Go.Proofs.Ytlabfinhdidmaaa
