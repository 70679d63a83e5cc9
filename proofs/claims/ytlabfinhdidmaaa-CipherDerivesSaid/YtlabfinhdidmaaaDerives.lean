/- For every key, tag, number and limit, derived keys and numbers by the program are those of the reference; no conditions. -/
import Derived.Test.YtlabfinhdidmaaaOpen
import Derived.Test.YtlabfinhdidmaaaRows
import Derived.Test.YtlabfinhdidmaaaC9
namespace Go.Proofs.Ytlabfinhdidmaaa
open Go.RowKit Go.ChangeShapes Go.WideShapes Pl

theorem cipherDerives_calls (H : Type) (enc : TypeId × Value → H) (W : World) (base : Nat) (args : Array Value) (ds : List (DataW H)) (ps : List MemPlace) (h : Opened enc Try.prog W Try.f4 base args ds ps) :
    Calls Try.prog 4 args W fun e w' => e = .returned (.bool true) ∧ Below W.heap.size W w' := by
  have r0 := h.args (ts := [23, 5, 31, 31]) (by kernel_rfl)
  generalize hl : args.toList = l0 at r0
  obtain ⟨_, l1, rfl, a0, r1⟩ := r0.cons
  obtain ⟨k, rfl⟩ := a0.key tyK23 (by kernel_rfl)
  obtain ⟨_, l2, rfl, a1, r2⟩ := r1.cons
  obtain ⟨tag, rfl⟩ := a1.u8 Try.underlying5
  obtain ⟨_, l3, rfl, a2, r3⟩ := r2.cons
  obtain ⟨n, rfl⟩ := a2.u64 Try.underlying31
  obtain ⟨_, l4, rfl, a3, r4⟩ := r3.cons
  obtain ⟨most, rfl⟩ := a3.u64 Try.underlying31
  obtain rfl := r4.nil
  rw [arr_of hl]
  exact g_CipherDerives k tag n most W
set_option maxRecDepth 100000 in
theorem cipherDerives_holds : Rows.CipherDerivesSaid :=
  OpenClaim.holds_of_wide 4 Try.f4 rfl rfl rfl rfl rfl rfl rfl ⟨rfl, rfl, rfl, rfl, rfl⟩ rfl rfl rfl rfl rfl (by kernel_rfl) Try.func4 (by kernel_rfl)
    (of_decide_eq_true (by kernel_rfl)) (by unfold Func.isWrapper; first | (rw [if_pos (by decide +kernel)]; kernel_rfl) | (rw [if_neg (by decide +kernel)]; exact ⟨rfl, rfl⟩))
    (fun os started H enc _ => law_lifted (C := Try.checked) (s := Rows.cipherDerivesSpec) (conds := Rows.cipherDerivesRow.domain) 4 (by kernel_rfl) (by kernel_rfl) Try.func4 (by kernel_rfl) (by kernel_rfl) rfl
      (fun H ds hd => match ds, hd with | [_, _, _, _], _ => rfl) (by kernel_rfl) Try.underlying4 cipherDerives_calls os started H enc
      (ChangeSpec.witness6 (enc := enc) (C := Try.checked) false ⟨#[], #[.agg #[.int .u8 0, .int .u8 0, .int .u8 0, .int .u8 0, .int .u8 0, .int .u8 0, .int .u8 0, .int .u8 0, .int .u8 0, .int .u8 0, .int .u8 0, .int .u8 0, .int .u8 0, .int .u8 0, .int .u8 0, .int .u8 0], .int .u8 0, .int .u64 0, .int .u64 0], []⟩ 8 (by kernel_rfl) (by kernel_rfl) (by kernel_rfl) (by kernel_rfl)))
#print axioms cipherDerives_holds
end Go.Proofs.Ytlabfinhdidmaaa
