/- How schemes and trees stand in memory; operations on numbers. No function of the program is in sight here. -/
import Derived.Test.YtoegpalacppllaaStr
import Derived.Test.YtoegpalacppllaaTp
import Derived.Test.YtoegpalacppllaaHp4
namespace Go.Proofs.Ytoegpalacppllaa
open Go.RowKit Pl Tr

abbrev scC (s : Sc) : List Value := [.int .u8 s.k, .int .i64 s.d, .int .i64 s.g, .int .u64 s.p, .int .u64 s.q, .int .u64 s.r]
abbrev treeC (s : Sc) : List Value := [.int .u8 (tk s), .int .i64 (td s), .int .i64 (ts s : Int)]
theorem treeC_no {s : Sc} (h : schB s = false) : treeC s = [.int .u8 0, .int .i64 0, .int .i64 0] := by simp [treeC, tk, td, ts, h]
theorem treeC_yes {s : Sc} {i : Nat} (h : schB s = true) (hi : i = strideN s.d) : treeC s = [.int .u8 s.k, .int .i64 s.d, .int .i64 (i : Int)] := by subst hi; simp [treeC, tk, td, ts, h]
theorem ret_ii {k k' : IntKind} {a b c d : Int} (h : a = b) (h2 : c = d) : Ending.returned (.tuple #[.int k a, .int k' c]) = .returned (.tuple #[.int k b, .int k' d]) := by rw [h, h2]
section
variable {P : Program} {bs : List Value} {us : List (Nat × Value)} {o : Oper}
theorem r_shlZ {t t' : Nat} {x y : Operand} {m : Nat} {d : Int} {k' : IntKind} (ho : o.op = .binOp .shl t x y t') (hx : ev bs us x = .int .i64 (m : Int)) (hy : ev bs us y = .int k' d) (h0 : 0 ≤ d) (hd : d < 63) (h : m * p2 d.toNat < 9223372036854775808) : Runs P bs us o (.int .i64 ((m * p2 d.toNat : Nat) : Int)) := by
  obtain ⟨n, rfl⟩ : ∃ n : Nat, d = n := ⟨d.toNat, by omega⟩
  simp only [Int.toNat_natCast] at h ⊢
  exact r_shlN ho hx hy (by omega) (by rw [p2_pow]) h
end
end Go.Proofs.Ytoegpalacppllaa
