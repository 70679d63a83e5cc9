/- For every key, number, all bytes and an index: the stream applied twice gives the bytes back, and the stream of a first part is the first part of the stream; more than 16384 bytes are an error; no conditions. -/
import Derived.Test.YtlabfinhdidmaaaOpen
import Derived.Test.YtlabfinhdidmaaaRows
import Derived.Test.YtlabfinhdidmaaaL7
namespace Go.Proofs.Ytlabfinhdidmaaa
open Go.RowKit Go.ChangeShapes Go.WideShapes Pl

theorem cipherTwice_calls (H : Type) (enc : TypeId × Value → H) (W : World) (base : Nat) (args : Array Value) (ds : List (DataW H)) (ps : List MemPlace) (h : Opened enc Try.prog W Try.f15 base args ds ps) :
    Calls Try.prog 15 args W fun e w' => e = .returned (.bool true) ∧ Below W.heap.size W w' := by
  have r0 := h.args (ts := [23, 31, 37, 3]) (by kernel_rfl)
  generalize hl : args.toList = l0 at r0
  obtain ⟨_, l1, rfl, a0, r1⟩ := r0.cons
  obtain ⟨k, rfl⟩ := a0.key tyK23 (by kernel_rfl)
  obtain ⟨_, l2, rfl, a1, r2⟩ := r1.cons
  obtain ⟨n, rfl⟩ := a1.u64 Try.underlying31
  obtain ⟨_, l3, rfl, a2, r3⟩ := r2.cons
  obtain ⟨b_a, b_n, b_c, b, rfl, b_len, b_rd, b_le, b_max, b_nil⟩ := a2.bytes Try.underlying37 Try.underlying5 (by kernel_rfl) (by kernel_rfl)
  obtain ⟨_, l4, rfl, a3, r4⟩ := r3.cons
  obtain ⟨z, rfl, z_lo, z_hi⟩ := a3.int Try.underlying3
  obtain rfl := r4.nil
  rw [arr_of hl]
  subst b_len
  by_cases hb : 16384 < b.length
  · exact g_CipherTwiceB k n b_a b_c b z b_le b_nil hb W b_rd
  exact g_CipherTwiceS k n b_a b_c b z b_le b_nil hb W b_rd
set_option maxRecDepth 100000 in
theorem cipherTwice_holds : Rows.CipherTwiceSaid :=
  OpenClaim.holds_of_wide 15 Try.f15 rfl rfl rfl rfl rfl rfl rfl ⟨rfl, rfl, rfl, rfl, rfl⟩ rfl rfl rfl rfl rfl (by kernel_rfl) Try.func15 (by kernel_rfl)
    (of_decide_eq_true (by kernel_rfl)) (by unfold Func.isWrapper; first | (rw [if_pos (by decide +kernel)]; kernel_rfl) | (rw [if_neg (by decide +kernel)]; exact ⟨rfl, rfl⟩))
    (fun os started H enc _ => law_lifted (C := Try.checked) (s := Rows.cipherTwiceSpec) (conds := Rows.cipherTwiceRow.domain) 4 (by kernel_rfl) (by kernel_rfl) Try.func15 (by kernel_rfl) (by kernel_rfl) rfl
      (fun H ds hd => match ds, hd with | [_, _, _, _], _ => rfl) (by kernel_rfl) Try.underlying4 cipherTwice_calls os started H enc
      (ChangeSpec.witness6 (enc := enc) (C := Try.checked) false ⟨#[], #[.agg #[.int .u8 0, .int .u8 0, .int .u8 0, .int .u8 0, .int .u8 0, .int .u8 0, .int .u8 0, .int .u8 0, .int .u8 0, .int .u8 0, .int .u8 0, .int .u8 0, .int .u8 0, .int .u8 0, .int .u8 0, .int .u8 0], .int .u64 0, .slice none 0 0, .int .i64 0], []⟩ 8 (by kernel_rfl) (by kernel_rfl) (by kernel_rfl) (by kernel_rfl)))
#print axioms cipherTwice_holds
end Go.Proofs.Ytlabfinhdidmaaa
