/- For every key and every string: a key is read back from its text; what is read is the key of the text, or an error with no key; no conditions. -/
import Derived.Test.YtlabfinhdidmaaaOpen
import Derived.Test.YtlabfinhdidmaaaRows
import Derived.Test.YtlabfinhdidmaaaL5
namespace Go.Proofs.Ytlabfinhdidmaaa
open Go.RowKit Go.ChangeShapes Go.WideShapes Pl

theorem cipherTextBack_calls (H : Type) (enc : TypeId × Value → H) (W : World) (base : Nat) (args : Array Value) (ds : List (DataW H)) (ps : List MemPlace) (h : Opened enc Try.prog W Try.f13 base args ds ps) :
    Calls Try.prog 13 args W fun e w' => e = .returned (.bool true) ∧ Below W.heap.size W w' := by
  have r0 := h.args (ts := [23, 9]) (by kernel_rfl)
  generalize hl : args.toList = l0 at r0
  obtain ⟨_, l1, rfl, a0, r1⟩ := r0.cons
  obtain ⟨k, rfl⟩ := a0.key tyK23 (by kernel_rfl)
  obtain ⟨_, l2, rfl, a1, r2⟩ := r1.cons
  obtain ⟨s, rfl, s_max⟩ := a1.str Try.underlying9
  obtain rfl := r2.nil
  rw [arr_of hl]
  obtain ⟨q, rfl, -⟩ := str_of s
  rcases hp : parse q with _ | k2
  · exact g_CipherTextBackN k q hp W
  exact g_CipherTextBackS k q k2 hp W
set_option maxRecDepth 100000 in
theorem cipherTextBack_holds : Rows.CipherTextBackSaid :=
  OpenClaim.holds_of_wide 13 Try.f13 rfl rfl rfl rfl rfl rfl rfl ⟨rfl, rfl, rfl, rfl, rfl⟩ rfl rfl rfl rfl rfl (by kernel_rfl) Try.func13 (by kernel_rfl)
    (of_decide_eq_true (by kernel_rfl)) (by unfold Func.isWrapper; first | (rw [if_pos (by decide +kernel)]; kernel_rfl) | (rw [if_neg (by decide +kernel)]; exact ⟨rfl, rfl⟩))
    (fun os started H enc _ => law_lifted (C := Try.checked) (s := Rows.cipherTextBackSpec) (conds := Rows.cipherTextBackRow.domain) 4 (by kernel_rfl) (by kernel_rfl) Try.func13 (by kernel_rfl) (by kernel_rfl) rfl
      (fun H ds hd => match ds, hd with | [_, _], _ => rfl) (by kernel_rfl) Try.underlying4 cipherTextBack_calls os started H enc
      (ChangeSpec.witness6 (enc := enc) (C := Try.checked) false ⟨#[], #[.agg #[.int .u8 0, .int .u8 0, .int .u8 0, .int .u8 0, .int .u8 0, .int .u8 0, .int .u8 0, .int .u8 0, .int .u8 0, .int .u8 0, .int .u8 0, .int .u8 0, .int .u8 0, .int .u8 0, .int .u8 0, .int .u8 0], .string ⟨#[]⟩], []⟩ 8 (by kernel_rfl) (by kernel_rfl) (by kernel_rfl) (by kernel_rfl)))
#print axioms cipherTextBack_holds
end Go.Proofs.Ytlabfinhdidmaaa
