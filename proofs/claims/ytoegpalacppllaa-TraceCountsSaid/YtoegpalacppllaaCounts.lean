/- For every number of users, of pirates, every scheme and noise: the bounds on rounds and on queries by the program, or the errors, are those of the reference; no conditions. -/
import Derived.Test.YtoegpalacppllaaOpenFacts
import Derived.Test.YtoegpalacppllaaRows
import Derived.Test.YtoegpalacppllaaL31
namespace Go.Proofs.Ytoegpalacppllaa
open Go.RowKit Go.ChangeShapes Go.WideShapes Pl Tr Hn

theorem traceCounts_calls (H : Type) (enc : TypeId × Value → H) (W : World) (base : Nat) (args : Array Value) (ds : List (DataW H)) (ps : List MemPlace) (h : Opened enc Try.prog W Try.f3 base args ds ps) :
    Calls Try.prog 3 args W fun e w' => e = .returned (.bool true) ∧ Below W.heap.size W w' := by
  have r0 := h.args (ts := [3, 3, 26, 3]) (by kernel_rfl)
  generalize hl : args.toList = l0 at r0
  obtain ⟨_, l1, rfl, a0, r1⟩ := r0.cons
  obtain ⟨u, rfl, u_lo, u_hi⟩ := a0.int Try.underlying3
  obtain ⟨_, l2, rfl, a1, r2⟩ := r1.cons
  obtain ⟨p, rfl, p_lo, p_hi⟩ := a1.int Try.underlying3
  obtain ⟨_, l3, rfl, a2, r3⟩ := r2.cons
  obtain ⟨s, rfl⟩ := a2.scheme tyS26
  obtain ⟨_, l4, rfl, a3, r4⟩ := r3.cons
  obtain ⟨noise, rfl, noise_lo, noise_hi⟩ := a3.int Try.underlying3
  obtain rfl := r4.nil
  rw [arr_of hl]
  exact g_TraceCounts u p s noise W
set_option maxRecDepth 100000 in
theorem traceCounts_holds : Rows.TraceCountsSaid :=
  OpenClaim.holds_of_wide 3 Try.f3 rfl rfl rfl rfl rfl rfl rfl ⟨rfl, rfl, rfl, rfl, rfl⟩ rfl rfl rfl rfl rfl (by kernel_rfl) Try.func3 (by kernel_rfl)
    (of_decide_eq_true (by kernel_rfl)) (by unfold Func.isWrapper; first | (rw [if_pos (by decide +kernel)]; kernel_rfl) | (rw [if_neg (by decide +kernel)]; exact ⟨rfl, rfl⟩))
    (fun os started H enc _ => law_lifted (C := Try.checked) (s := Rows.traceCountsSpec) (conds := Rows.traceCountsRow.domain) 4 (by kernel_rfl) (by kernel_rfl) Try.func3 (by kernel_rfl) (by kernel_rfl) rfl
      (fun H ds hd => match ds, hd with | [_, _, _, _], _ => rfl) (by kernel_rfl) Try.underlying4 traceCounts_calls os started H enc
      (ChangeSpec.witness6 (enc := enc) (C := Try.checked) false ⟨#[], #[.int .i64 0, .int .i64 0, .agg #[.int .u8 0, .int .i64 0, .int .i64 0, .int .u64 0, .int .u64 0, .int .u64 0], .int .i64 0], []⟩ 8 (by kernel_rfl) (by kernel_rfl) (by kernel_rfl) (by kernel_rfl)))
#print axioms traceCounts_holds
end Go.Proofs.Ytoegpalacppllaa
