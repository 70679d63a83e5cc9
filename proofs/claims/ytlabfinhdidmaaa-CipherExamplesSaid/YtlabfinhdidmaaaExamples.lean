/- The published examples, limits, tags and error numbers of the cipher hold of the program; no input, no conditions. -/
import Derived.Test.YtlabfinhdidmaaaOpen
import Derived.Test.YtlabfinhdidmaaaRows
import Derived.Test.YtlabfinhdidmaaaL10
namespace Go.Proofs.Ytlabfinhdidmaaa
open Go.RowKit Go.ChangeShapes Go.WideShapes Pl

theorem cipherExamples_calls (H : Type) (enc : TypeId × Value → H) (W : World) (base : Nat) (args : Array Value) (ds : List (DataW H)) (ps : List MemPlace) (h : Opened enc Try.prog W Try.f18 base args ds ps) :
    Calls Try.prog 18 args W fun e w' => e = .returned (.bool true) ∧ Below W.heap.size W w' := by
  have r0 := h.args (ts := []) (by kernel_rfl)
  generalize hl : args.toList = l0 at r0
  obtain rfl := r0.nil
  rw [arr_of hl]
  exact g_CipherExamples W
set_option maxRecDepth 100000 in
theorem cipherExamples_holds : Rows.CipherExamplesSaid :=
  OpenClaim.holds_of_wide 18 Try.f18 rfl rfl rfl rfl rfl rfl rfl ⟨rfl, rfl, rfl, rfl, rfl⟩ rfl rfl rfl rfl rfl (by kernel_rfl) Try.func18 (by kernel_rfl)
    (of_decide_eq_true (by kernel_rfl)) (by unfold Func.isWrapper; first | (rw [if_pos (by decide +kernel)]; kernel_rfl) | (rw [if_neg (by decide +kernel)]; exact ⟨rfl, rfl⟩))
    (fun os started H enc _ => law_lifted (C := Try.checked) (s := Rows.cipherExamplesSpec) (conds := Rows.cipherExamplesRow.domain) 4 (by kernel_rfl) (by kernel_rfl) Try.func18 (by kernel_rfl) (by kernel_rfl) rfl
      (fun H ds hd => match ds, hd with | [], _ => rfl) (by kernel_rfl) Try.underlying4 cipherExamples_calls os started H enc
      (ChangeSpec.witness6 (enc := enc) (C := Try.checked) false ⟨#[], #[], []⟩ 8 (by kernel_rfl) (by kernel_rfl) (by kernel_rfl) (by kernel_rfl)))
#print axioms cipherExamples_holds
end Go.Proofs.Ytlabfinhdidmaaa
