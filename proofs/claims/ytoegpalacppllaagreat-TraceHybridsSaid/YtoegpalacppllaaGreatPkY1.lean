/- For every root key, scheme, list of at most 64 subsets, number of fakes and session key: the header of a query is the sealed one but for the fakes, whose boxes hold the keys that are derived for them, or an error with no items; no conditions. -/
import Derived.Test.YtoegpalacppllaaGreatPkB5
import Derived.Deep.LoopGhost
import Derived.Shelf.Abstract
import Derived.ArgAppend
import Derived.ChangeKeysEq
import Derived.Test.YtoegpalacppllaaGreatProg
import Derived.ChangeSlices
import Derived.ChangeMaps5
import Derived.Test.YtoegpalacppllaaGreatRows
/- Operations one by one, over frames that are written as lists. No function of the program is in sight here. -/
namespace Go.Proofs.YtoegpalacppllaaGreat
open Go.RowKit

section
variable {P : Program} {bs : List Value} {us : List (Nat × Value)} {ds : List Deferred} {o : Oper} {v : Value}

/-! ### addresses -/
/-! ### integers -/
/-! ### u64 -/
theorem r_sub_u64 {t t' : Nat} {p q : Operand} {x y : BitVec 64} (ho : o.op = .binOp .sub t p q t') (hx : ev bs us p = .int .u64 (x.toNat : Int)) (hy : ev bs us q = .int .u64 (y.toNat : Int)) : Runs P bs us o (.int .u64 ((x - y).toNat : Int)) :=
  r_sub ho hx hy (by
    have h1 := x.isLt
    have h2 := y.isLt
    simp only [IntKind.wrap, IntKind.bits, IntKind.signed, BitVec.toNat_sub]
    simp
    omega)
/-! ### u8 -/
/-! ### conversions -/
end
end Go.Proofs.YtoegpalacppllaaGreat

/- A walk over frames that are lists and blocks that are known whole: code, regions, calls, loops, results. No function of the program is in sight here. -/
namespace Go.Proofs.YtoegpalacppllaaGreat
open Go.RowKit

section
variable {P : Program} {ops : Array Oper} {Q : Exit → Act → World → Prop} {bs : List Value} {us : List (Nat × Value)} {ds : List Deferred} {w0 : Base} {W : World} {rest : List Oper} {o : Oper} {L : List Blk} {d : Nat} {v : Value} {r : Option (Option Nat)} {m : Nat}

/-! ### operations in a list -/
/-! ### operations in a region that draws its order -/
section
variable {S : List Nat} {ks : List Kd} {ms : List Mk} {V : List (List Value)} {R : Act → St → Prop} {T : List Oper → Act → St → Prop}
theorem y_loadP1 (p : Nat) {t : TypeId} {n : Nat} (ht : TyA P t n) {x : Operand} {g i : Nat} {cs vs : List Value} {ty : TypeId} (hw : Region.wanted o (yielded ops (fr bs us ds).tmps) = true) (ho : o.op = .load t x) (hx : ev bs us x = .pointer (some ⟨g, i, none⟩)) (hd : o.dst = some d)
    (hp : L[p]? = some ⟨g, cs, ty⟩) (hn : i + n ≤ cs.length) (hv : (cs.drop i).take n = vs) (h : lx P ops w0 S ms R T ks rest (fr bs ((d, .agg vs.toArray) :: us) ds) (L, V)) : lx P ops w0 S ms R T (.r :: ks) (o :: rest) (fr bs us ds) (L, V) :=
  ⟨_, (L, V), ⟨fun N => yields_run hw fun w hC => by rw [eval_ev]; exact run_loadP_at ht p ho hx (Sim.more [] L N p _ (by simp) hp) hn hv w hC, rfl⟩, by simp only [putK, hd, put_st]; exact h⟩
theorem y_loadA1 (p : Nat) {t : TypeId} {n : Nat} (ht : TyA P t n) {x : Operand} {g : Nat} {cs : List Value} {ty : TypeId} (hw : Region.wanted o (yielded ops (fr bs us ds).tmps) = true) (ho : o.op = .load t x) (hx : ev bs us x = .pointer (some ⟨g, 0, none⟩)) (hd : o.dst = some d)
    (hp : L[p]? = some ⟨g, cs, ty⟩) (hn : cs.length = n) (h : lx P ops w0 S ms R T ks rest (fr bs ((d, .agg cs.toArray) :: us) ds) (L, V)) : lx P ops w0 S ms R T (.r :: ks) (o :: rest) (fr bs us ds) (L, V) :=
  y_loadP1 p ht hw ho hx hd hp (by omega) (take_all hn) h
end

/-! ### regions -/
variable {a : Act}
/-! ### code -/
/-! ### a function -/
variable {fn : Func} {R' : Ending → World → Prop}
end
end Go.Proofs.YtoegpalacppllaaGreat

/- Slices: those that the call itself makes and appends to, and those that it only reads. No function of the program is in sight here. -/
namespace Go.Proofs.YtoegpalacppllaaGreat
open Go.RowKit

section
variable {P : Program}

variable {ops : Array Oper} {Q : Exit → Act → World → Prop} {bs : List Value} {us : List (Nat × Value)} {ds : List Deferred} {w0 : Base} {W : World} {rest : List Oper} {o : Oper} {L Bs : List Blk} {d : Nat} {v : Value} {r : Option (Option Nat)} {m : Nat}

/-- one less than a number -/
def im1 : Nat → Int
  | 0 => -1
  | n + 1 => n
theorem im1_dec {n : Nat} (h : n < 4294967296) : IntKind.i64.wrap ((n : Int) - 1) = im1 n := by
  cases n with
  | zero => rfl
  | succ m =>
    rw [show ((m + 1 : Nat) : Int) - 1 = (m : Int) by omega]
    exact wrap64_nat m (by omega)

/-! ### slice expressions -/
/-! ### functions -/
end
end Go.Proofs.YtoegpalacppllaaGreat

/- Plain laws of the cipher: what its functions compute, over pairs of 64-bit words, and that encryption and decryption undo each other. No program is in sight here. -/
namespace Go.Proofs.YtoegpalacppllaaGreat.Pl

def bck (p : Kw) (k : W64) : Kw := (((p.1 ^^^ k) - (p.1 ^^^ p.2).rotateRight 3).rotateLeft 8, (p.1 ^^^ p.2).rotateRight 3)

theorem rotR_rotL (x : W64) (n : Nat) (h : n < 64) : (x.rotateLeft n).rotateRight n = x := by
  apply BitVec.eq_of_getLsbD_eq
  intro i hi
  have hn : n % 64 = n := Nat.mod_eq_of_lt h
  rw [BitVec.getLsbD_rotateRight, BitVec.getLsbD_rotateLeft, BitVec.getLsbD_rotateLeft, hn]
  by_cases h1 : i < 64 - n
  · have h2 : ¬ (n + i < n) := by omega
    have h3 : n + i < 64 := by omega
    have e : n + i - n = i := by omega
    simp only [decide_eq_true h1, decide_eq_false h2, decide_eq_true h3, cond_true, cond_false, Bool.true_and, e]
  · have h2 : i - (64 - n) < n := by omega
    have e : 64 - n + (i - (64 - n)) = i := by omega
    simp only [decide_eq_false h1, decide_eq_true h2, decide_eq_true hi, cond_true, cond_false, Bool.true_and, e]

theorem rotL_rotR (x : W64) (n : Nat) (h : n < 64) : (x.rotateRight n).rotateLeft n = x := by
  apply BitVec.eq_of_getLsbD_eq
  intro i hi
  have hn : n % 64 = n := Nat.mod_eq_of_lt h
  rw [BitVec.getLsbD_rotateLeft, BitVec.getLsbD_rotateRight, BitVec.getLsbD_rotateRight, hn]
  by_cases h1 : i < n
  · have h2 : ¬ (64 - n + i < 64 - n) := by omega
    have h3 : 64 - n + i < 64 := by omega
    have e : 64 - n + i - (64 - n) = i := by omega
    simp only [decide_eq_true h1, decide_eq_false h2, decide_eq_true h3, cond_true, cond_false, Bool.true_and, e]
  · have h2 : i - n < 64 - n := by omega
    have e : n + (i - n) = i := by omega
    simp only [decide_eq_false h1, decide_eq_true h2, decide_eq_true hi, cond_true, cond_false, Bool.true_and, e]

theorem xor_self_left (a b : W64) : a ^^^ (a ^^^ b) = b := by rw [← BitVec.xor_assoc, BitVec.xor_self, BitVec.zero_xor]
theorem xor_self_mid (a b : W64) : a ^^^ (b ^^^ a) = b := by rw [BitVec.xor_comm b a, xor_self_left]
theorem xor_self_right (a b : W64) : (a ^^^ b) ^^^ b = a := by rw [BitVec.xor_assoc, BitVec.xor_self, BitVec.xor_zero]

theorem bck_rnd (p : Kw) (k : W64) : bck (rnd p k) k = p := by
  obtain ⟨x, y⟩ := p
  simp only [rnd, bck]
  rw [xor_self_mid, rotR_rotL _ _ (by omega), xor_self_right, BitVec.add_sub_cancel, rotL_rotR _ _ (by omega)]

def decTo (k b : Kw) : Nat → Kw
  | 0 => b
  | i + 1 => bck (decTo k b i) (rk k (31 - i))
def dec (k b : Kw) : Kw := decTo k b 32

theorem decTo_enc (k b : Kw) : ∀ i, i ≤ 32 → decTo k (enc k b) i = encTo k b (32 - i)
  | 0, _ => rfl
  | i + 1, h => by
    have e : 32 - i = (32 - (i + 1)) + 1 := by omega
    have e2 : 32 - (i + 1) = 31 - i := by omega
    rw [decTo, decTo_enc k b i (by omega), e, encTo, e2, bck_rnd]
theorem dec_enc (k b : Kw) : dec k (enc k b) = b := decTo_enc k b 32 (Nat.le_refl _)

/-! ### the reference's own ways -/
/-! ### blocks of tags, numbers -/
end Go.Proofs.YtoegpalacppllaaGreat.Pl

/- How keys and pairs of words stand in memory. -/
namespace Go.Proofs.YtoegpalacppllaaGreat
open Pl

/-- 32 words of which the first n are there -/
def wu (f : Nat → W64) (n : Nat) : List Value := (List.range 32).map fun j => if j < n then U64 (f j) else .int .u64 0
theorem wu_len (f : Nat → W64) (n : Nat) : (wu f n).length = 32 := by simp [wu]
theorem wu_zero (f : Nat → W64) : wu f 0 = List.replicate 32 (.int .u64 0) := by rfl
theorem wu_get (f : Nat → W64) {j : Nat} (h : j < 32) : (wu f 32)[j]? = some (U64 (f j)) := by simp [wu, h]
theorem wu_set (f : Nat → W64) (i : Nat) : (wu f i).set i (U64 (f i)) = wu f (i + 1) := by
  apply List.ext_getElem?
  intro j
  rw [List.getElem?_set, wu_len]
  by_cases hj : j < 32
  · by_cases hij : i = j
    · subst hij; simp [wu, hj]
    · rw [if_neg hij]
      simp only [wu, List.getElem?_map, List.getElem?_range hj, Option.map_some, Option.some.injEq]
      by_cases h2 : j < i
      · rw [if_pos h2, if_pos (by omega)]
      · rw [if_neg h2, if_neg (by omega)]
  · have h1 : (wu f i)[j]? = none := by rw [List.getElem?_eq_none]; rw [wu_len]; omega
    have h2 : (wu f (i + 1))[j]? = none := by rw [List.getElem?_eq_none]; rw [wu_len]; omega
    rw [h1, h2]
    split
    · split
      · omega
      · rfl
    · rfl
end Go.Proofs.YtoegpalacppllaaGreat

/- Equality of keys, as the language makes it. -/
namespace Go.Proofs.YtoegpalacppllaaGreat
open Go.RowKit Pl

section
variable {P : Program}
theorem run_neqK {t e : TypeId} (h : TyK P t e) (a b : Kw) (w : World) : (binOp .neq t (keyV a) (keyV b)).run P w = .ok (.bool (decide (a ≠ b))) w := by
  obtain ⟨i, hi⟩ := h.info
  have h1 := run_eqItems8 h a b 9998 w (List.range 16) (fun i hi => List.mem_range.1 hi)
  have h2 := run_equalIn_array w 9999 (kc a).toArray (kc b).toArray h.u hi
  rw [h.one, h1] at h2
  have h3 : decide (∀ i ∈ List.range 16, byt a i = byt b i) = decide (a = b) := decide_eq_decide.2 ⟨fun h => ext_byt fun i hi => h i (List.mem_range.2 hi), fun h i _ => by rw [h]⟩
  unfold keyV
  rw [run_neq_struct, h2, h3]
  simp

variable {bs : List Value} {us : List (Nat × Value)} {o : Oper}
theorem r_neqK {t e t' : Nat} {p q : Operand} (h : TyK P t e) (a b : Kw) {c : Bool} (ho : o.op = .binOp .neq t p q t') (hx : ev bs us p = keyV a) (hy : ev bs us q = keyV b) (hc : decide (a ≠ b) = c) : Runs P bs us o (.bool c) := fun w => by
  subst hc
  unfold execOp
  simp only [ho, hx, hy, keyV, Sem.run_bind, run_eqGuard_agg _ _ _ _ _ _ _ h.plain, Result.andThen_ok]
  have := run_neqK h a b w
  unfold keyV at this
  simp [this]
end
end Go.Proofs.YtoegpalacppllaaGreat

/- Closed facts on types and functions of the program, written by a program. -/
namespace Go.Proofs.YtoegpalacppllaaGreat
open Pl
theorem tyC48 : TyC Tryz.prog 48 := ⟨fun _ => by kernel_rfl, fun _ => by kernel_rfl⟩
theorem tyA51 : TyA Tryz.prog 51 35 := ⟨fun _ => by kernel_rfl, fun _ => by kernel_rfl⟩
theorem tyZ51 : TyZ Tryz.prog 51 (.agg z51.toArray) := fun _ => by kernel_rfl
theorem tyA100 : TyA Tryz.prog 100 18 := ⟨fun _ => by kernel_rfl, fun _ => by kernel_rfl⟩
abbrev z100 : List Value := [.int .i64 0, .int .i64 0, .int .u8 0, .int .u8 0, .int .u8 0, .int .u8 0, .int .u8 0, .int .u8 0, .int .u8 0, .int .u8 0, .int .u8 0, .int .u8 0, .int .u8 0, .int .u8 0, .int .u8 0, .int .u8 0, .int .u8 0, .int .u8 0]
abbrev z163 : List Value := [.int .u64 0, .int .u64 0, .int .u64 0, .int .u64 0, .int .u64 0, .int .u64 0, .int .u64 0, .int .u64 0, .int .u64 0, .int .u64 0, .int .u64 0, .int .u64 0, .int .u64 0, .int .u64 0, .int .u64 0, .int .u64 0, .int .u64 0, .int .u64 0, .int .u64 0, .int .u64 0, .int .u64 0, .int .u64 0, .int .u64 0, .int .u64 0, .int .u64 0, .int .u64 0, .int .u64 0, .int .u64 0, .int .u64 0, .int .u64 0, .int .u64 0, .int .u64 0]
theorem tyZ163 : TyZ Tryz.prog 163 (.agg z163.toArray) := fun _ => by kernel_rfl
theorem en20 : Enters Tryz.prog 20 := enters_of Tryz.func20 (by kernel_rfl) rfl
theorem en31 : Enters Tryz.prog 31 := enters_of Tryz.func31 (by kernel_rfl) rfl
theorem en47 : Enters Tryz.prog 47 := enters_of Tryz.func47 (by kernel_rfl) rfl
theorem en48 : Enters Tryz.prog 48 := enters_of Tryz.func48 (by kernel_rfl) rfl
theorem en49 : Enters Tryz.prog 49 := enters_of Tryz.func49 (by kernel_rfl) rfl
theorem en65 : Enters Tryz.prog 65 := enters_of Tryz.func65 (by kernel_rfl) rfl
theorem en66 : Enters Tryz.prog 66 := enters_of Tryz.func66 (by kernel_rfl) rfl
theorem en67 : Enters Tryz.prog 67 := enters_of Tryz.func67 (by kernel_rfl) rfl
theorem en95 : Enters Tryz.prog 95 := enters_of Tryz.func95 (by kernel_rfl) rfl
theorem en111 : Enters Tryz.prog 111 := enters_of Tryz.func111 (by kernel_rfl) rfl
theorem tyE48 : TyE Tryz.prog 48 100 18 32 := ⟨by kernel_rfl, ⟨(Tryz.prog.info? 100).get (by kernel_rfl), .agg z100.toArray, by kernel_rfl, by kernel_rfl, by kernel_rfl, by kernel_rfl, by kernel_rfl⟩, by decide⟩
theorem bld51_  : ∀ w, (Instr.build 51 [].toArray).run Tryz.prog w = .ok (.agg [.slice none 0 0, .int .u64 0, .slice none 0 0, .int .u8 0, .int .u8 0, .int .u8 0, .int .u8 0, .int .u8 0, .int .u8 0, .int .u8 0, .int .u8 0, .int .u8 0, .int .u8 0, .int .u8 0, .int .u8 0, .int .u8 0, .int .u8 0, .int .u8 0, .int .u8 0, .int .u8 0, .int .u8 0, .int .u8 0, .int .u8 0, .int .u8 0, .int .u8 0, .int .u8 0, .int .u8 0, .int .u8 0, .int .u8 0, .int .u8 0, .int .u8 0, .int .u8 0, .int .u8 0, .int .u8 0, .int .u8 0].toArray) w := fun _ => by kernel_rfl
theorem gd100 : Tryz.prog.eqGuardType Tryz.prog.depth 100 = false := by kernel_rfl
theorem eqS100 (x0 y0 : Int) (x1 y1 : Int) (x2 y2 : Kw) : EqV Tryz.prog 10000 100 (.agg (([.int .i64 x0, .int .i64 x1] : List Value) ++ kc x2).toArray) (.agg (([.int .i64 y0, .int .i64 y1] : List Value) ++ kc y2).toArray) (decide ((x0 = y0 ∧ x1 = y1) ∧ x2 = y2)) :=
  EqV.cast (EqV.struct (bs := [decide ((x0 = y0 ∧ x1 = y1)), decide (x2 = y2)]) Tryz.underlying100 (by kernel_rfl) ⟨by decide, ⟨_, _, part_agg tyA64 (by rfl), part_agg tyA64 (by rfl), EqV.cast (EqV.struct (bs := [decide (x0 = y0), decide (x1 = y1)]) Tryz.underlying64 (by kernel_rfl) ⟨by decide, ⟨_, _, part_cell tyC3 (by rfl), part_cell tyC3 (by rfl), EqV.int Tryz.underlying3 x0 y0⟩, ⟨by decide, ⟨_, _, part_cell tyC3 (by rfl), part_cell tyC3 (by rfl), EqV.int Tryz.underlying3 x1 y1⟩, trivial⟩⟩) (by simp only [List.all_cons, List.all_nil, id, Bool.and_true, Bool.decide_and])⟩, ⟨by decide, ⟨_, _, part_agg tyA29 (by rfl), part_agg tyA29 (by rfl), EqV.key tyK29 x2 y2⟩, trivial⟩⟩) (by simp only [List.all_cons, List.all_nil, id, Bool.and_true, Bool.decide_and])
end Go.Proofs.YtoegpalacppllaaGreat

/- What a law's arguments are: opened by their types. -/
namespace Go.Proofs.YtoegpalacppllaaGreat
open Go.RowKit Go.ChangeShapes Go.WideShapes Pl

section
variable {P : Program} {W : World}

theorem arr_of {args : Array Value} {l : List Value} (h : args.toList = l) : args = l.toArray := by subst h; simp

end
end Go.Proofs.YtoegpalacppllaaGreat

/- Rotations: the callee of math/bits. -/
namespace Go.Proofs.YtoegpalacppllaaGreat
open Go.RowKit Pl

set_option maxRecDepth 10000 in
/-- math/bits.RotateLeft64 -/
theorem g_rot8 (x : W64) : Gives Tryz.prog 136 [U64 x, .int .i64 (8)].toArray (U64 (x.rotateLeft 8)) := by
 refine gives_of Tryz.func136 rfl (bs := [U64 x, .int .i64 (8), undef, undef, undef, undef, undef, undef, undef, undef, undef, undef, undef, undef, undef, undef, undef]) rfl ?_
 intro w hW
 refine c_seq (c_reg ?_)
 refine bI ?_
 refine l_end (n_then (c_seq (c_reg ?_)))
 refine aI ?_
 refine l_val (run_conv Tryz.underlying3 Tryz.underlying113 rfl rfl (r := 8) (by decide)) rfl rfl ?_
 refine l_val (r_bits rfl rfl rfl (.inl rfl) (r := 8) (by decide +kernel)) rfl rfl ?_
 refine bI ?_
 refine l_end (n_then (c_seq (c_reg ?_)))
 refine aI ?_
 refine aI ?_
 refine l_val (r_shl_u64 (s := 8) rfl rfl rfl (by omega)) rfl rfl ?_
 refine aI ?_
 refine aI ?_
 refine l_val (r_sub rfl rfl rfl (r := 56) (by decide)) rfl rfl ?_
 refine l_val (r_shr_u64 (s := 56) rfl rfl rfl (by omega)) rfl rfl ?_
 refine l_val (r_or_u64 rfl rfl rfl) rfl rfl ?_
 refine bI ?_
 refine l_end (n_then (c_ret ?_))
 refine ret_tmp (v := U64 (x.rotateLeft 8)) rfl ?_ ⟨rfl, hW.below⟩
 rw [← rotL_def x 8 56 (by omega) rfl]; rfl

set_option maxRecDepth 10000 in
/-- math/bits.RotateLeft64 -/
theorem g_rotm3 (x : W64) : Gives Tryz.prog 136 [U64 x, .int .i64 (-3)].toArray (U64 (x.rotateRight 3)) := by
 refine gives_of Tryz.func136 rfl (bs := [U64 x, .int .i64 (-3), undef, undef, undef, undef, undef, undef, undef, undef, undef, undef, undef, undef, undef, undef, undef]) rfl ?_
 intro w hW
 refine c_seq (c_reg ?_)
 refine bI ?_
 refine l_end (n_then (c_seq (c_reg ?_)))
 refine aI ?_
 refine l_val (run_conv Tryz.underlying3 Tryz.underlying113 rfl rfl (r := 18446744073709551613) (by decide)) rfl rfl ?_
 refine l_val (r_bits rfl rfl rfl (.inl rfl) (r := 61) (by decide +kernel)) rfl rfl ?_
 refine bI ?_
 refine l_end (n_then (c_seq (c_reg ?_)))
 refine aI ?_
 refine aI ?_
 refine l_val (r_shl_u64 (s := 61) rfl rfl rfl (by omega)) rfl rfl ?_
 refine aI ?_
 refine aI ?_
 refine l_val (r_sub rfl rfl rfl (r := 3) (by decide)) rfl rfl ?_
 refine l_val (r_shr_u64 (s := 3) rfl rfl rfl (by omega)) rfl rfl ?_
 refine l_val (r_or_u64 rfl rfl rfl) rfl rfl ?_
 refine bI ?_
 refine l_end (n_then (c_ret ?_))
 refine ret_tmp (v := U64 (x.rotateRight 3)) rfl ?_ ⟨rfl, hW.below⟩
 rw [← rotR_def x 3 61 (by omega) rfl]; rfl

end Go.Proofs.YtoegpalacppllaaGreat

/- Words, blocks and rounds of package cipher. -/
namespace Go.Proofs.YtoegpalacppllaaGreat
open Go.RowKit Pl

set_option maxRecDepth 10000 in
/-- (headend/cipher.pair).back -/
theorem g_back (x y k : W64) : Gives Tryz.prog 95 [pairV (x, y), U64 k].toArray (pairV (bck (x, y) k)) := by
 refine gives_of Tryz.func95 rfl (bs := [pairV (x, y), U64 k, undef, undef, undef, undef, undef, undef, undef, undef, undef, undef, undef, undef, undef, undef, undef, undef, undef, undef, undef]) rfl ?_
 intro w hW
 refine c_seq (c_reg ?_)
 refine xB hW ?_
 intro g1 W hW
 refine l_alloc hW tyZ168 rfl rfl rfl ?_
 intro g2 W hW
 refine l_end (n_then (c_seq (c_reg ?_)))
 refine l_val (r_fieldAddr 0 Tryz.underlying168 rfl tyC22.size rfl rfl rfl) rfl rfl ?_
 refine dC hW 1 tyC22 ?_
 refine l_val (r_fieldAddr 1 Tryz.underlying168 rfl tyC22.size rfl rfl rfl) rfl rfl ?_
 refine dC hW 1 tyC22 ?_
 refine l_val (r_xor_u64 rfl rfl rfl) rfl rfl ?_
 refine l_call hW (g_rotm3 _) en136 rfl rfl rfl rfl ?_
 intro W hW
 refine bI ?_
 refine l_end (n_then (c_seq (c_reg ?_)))
 refine l_val (r_fieldAddr 0 Tryz.underlying168 rfl tyC22.size rfl rfl rfl) rfl rfl ?_
 refine dC hW 1 tyC22 ?_
 refine aI ?_
 refine l_val (r_xor_u64 rfl rfl rfl) rfl rfl ?_
 refine aI ?_
 refine l_val (r_sub_u64 rfl rfl rfl) rfl rfl ?_
 refine l_call hW (g_rot8 _) en136 rfl rfl rfl rfl ?_
 intro W hW
 refine aI ?_
 refine l_val (r_build (ps := [(0, .int _ _), (1, .int _ _)]) (bld168_0_1 _ _) rfl rfl) rfl rfl ?_
 refine sA hW 0 tyA168 ?_
 intro W hW
 refine l_end (n_then (c_ret ?_))
 refine rC hW 0 tyA168 ?_
 exact ⟨rfl, hW.below⟩

end Go.Proofs.YtoegpalacppllaaGreat

/- Decryption of package cipher. -/
namespace Go.Proofs.YtoegpalacppllaaGreat
open Go.RowKit Pl

set_option maxRecDepth 10000 in
/-- headend/cipher.Decrypt -/
theorem g_Decrypt (k b : Kw) : Gives Tryz.prog 49 [keyV k, keyV b].toArray (keyV (dec k b)) := by
 refine givesM_of Tryz.func49 rfl (bs := [keyV k, keyV b, undef, undef, undef, undef, undef, undef, undef, undef, undef, undef, undef, undef, undef, undef, undef, undef, undef, undef, undef, undef, undef, undef, undef, undef, undef, undef, undef, undef]) rfl ?_
 intro w hW
 refine c_seq (c_reg ?_)
 refine xB hW ?_
 intro g1 W hW
 refine xB hW ?_
 intro g2 W hW
 refine l_alloc hW tyZ29 rfl rfl rfl ?_
 intro g3 W hW
 refine l_end (n_then (c_seq (c_reg ?_)))
 refine l_alloc hW tyZ163 rfl rfl rfl ?_
 intro g4 W hW
 refine l_end (n_then (c_seq (c_seq (c_reg ?_))))
 refine dA hW 3 tyA29 ?_
 refine l_callX hW (g_keys k) en93 trivial rfl rfl rfl rfl ?_
 rintro _ Bs1 W ⟨gk, rfl, rfl⟩ hW
 replace hW := hW.perm List.perm_append_comm
 refine l_end (n_then (c_block ?_))
 refine c_range (i_keys k gk) en135 rfl (fun _ => rfl) (fun (i : Nat) => [⟨g4, wu (rk k) i, 163⟩, ⟨g3, z29, 29⟩, ⟨g2, kc b, 29⟩, ⟨g1, kc k, 29⟩]) (hW.to (by simp only [wu_zero]; rfl)) (fun (i : Nat) => fr [keyV k, keyV b, .pointer (some ⟨g1, 0, none⟩), .pointer (some ⟨g2, 0, none⟩), .pointer (some ⟨g3, 0, none⟩), .pointer (some ⟨g4, 0, none⟩), .int .i64 (i : Int), U64 (rk k i), undef, undef, keyV k, .func (.func 135) #[] #[.pointer (some ⟨gk, 0, none⟩)], .int .i64 (i : Int), U64 (rk k i), undef, undef, undef, undef, undef, undef, undef, undef, undef, undef, undef, undef, undef, undef, undef, undef] [] []) (fun (i : Nat) => [keyV k, keyV b, .pointer (some ⟨g1, 0, none⟩), .pointer (some ⟨g2, 0, none⟩), .pointer (some ⟨g3, 0, none⟩), .pointer (some ⟨g4, 0, none⟩), undef, undef, undef, undef, keyV k, .func (.func 135) #[] #[.pointer (some ⟨gk, 0, none⟩)], .int .i64 (i : Int), U64 (rk k i), undef, undef, undef, undef, undef, undef, undef, undef, undef, undef, undef, undef, undef, undef, undef, undef]) (fun _ => by kernel_rfl) ?_ ?_ ?_
 ·intro l i W
  refine c_seq (c_reg ?_)
  refine bI ?_
  refine l_end (n_then (c_reg ?_))
  refine bI ?_
  refine l_end ?_
  refine n_then ⟨?_, rfl⟩
  exact congrArg (fun x => (fr x [] [] : Act)) (by kernel_rfl)
 ·intro l r i L W hi hW
  refine c_block (c_reg ?_)
  refine aI ?_
  refine aI ?_
  refine l_val (r_indexAddrArr1 Tryz.underlying163 tyC22.size rfl rfl rfl (by omega)) rfl rfl ?_
  refine l_storeC hW 1 tyC22 (v := .int _ _) rfl rfl rfl rfl rfl rfl (by rw [wu_len]; omega) rfl ?_
  intro W hW
  refine l_end (n_block ?_)
  exact ⟨rfl, hW.to (by simp only [← wu_set (rk k) i]; rfl)⟩
 ·intro D r W hDb hW hD
  refine n_block (n_then (c_seq (c_reg ?_)))
  refine dA hW 3 tyA29 ?_
  refine l_call hW (g_wordsOf _) en94 rfl rfl rfl rfl ?_
  intro W hW
  refine l_alloc hW tyZ168 rfl rfl rfl ?_
  intro g5 W hW
  refine sA hW 0 tyA168 ?_
  intro W hW
  refine l_end (n_then (c_seq (c_seq (c_reg ?_))))
  refine bI ?_
  refine l_end (n_then (c_block ?_))
  refine c_loop (fun (i : Nat) (j : Nat → Value) => [keyV k, keyV b, .pointer (some ⟨g1, 0, none⟩), .pointer (some ⟨g2, 0, none⟩), .pointer (some ⟨g3, 0, none⟩), .pointer (some ⟨g4, 0, none⟩), j 6, j 7, .pointer (some ⟨g5, 0, none⟩), .int .i64 (im1 (32 - i)), j 10, j 11, j 12, j 13, j 14, j 15, j 16, j 17, j 18, j 19, j 20, j 21, j 22, j 23, j 24, j 25, j 26, j 27, j 28, j 29]) (fun (i : Nat) => [⟨g5, [U64 (decTo k b i).1, U64 (decTo k b i).2], 168⟩, ⟨gk, kc k, 29⟩, ⟨g4, wu (rk k) 32, 163⟩, ⟨g3, z29, 29⟩, ⟨g2, kc b, 29⟩, ⟨g1, kc k, 29⟩]) (fun (i : Nat) => i ≤ 32) (fun (i : Nat) => 32 - i) 0 (by kernel_rfl) hW (by omega) ?_
  intro i j W hx hW
  rcases Nat.lt_or_ge i 32 with h8 | h8
  ·skip
   rw [show 32 - i = (31 - i) + 1 by omega]
   refine c_seq (c_seq (c_reg ?_))
   refine aI ?_
   refine l_val (r_geqN (b := true) (n := 0) rfl rfl rfl (decide_eq_true (by omega))) rfl rfl ?_
   refine l_end (n_then ?_)
   refine c_true rfl ?_
   refine c_skip (n_then (c_seq (c_block ?_)))
   refine c_regY hW [0] [.r, .q, .q, .q, .q, .s] [0, 0, 2, 6, 15, 31] (by kernel_rfl) (by kernel_rfl) ?_
   refine y_loadA1 0 tyA168 rfl rfl rfl rfl rfl (by first | rfl | exact kc_len _ | exact kcf_len _ | exact boC_len _ _ | (simp; done)) ?_
   refine yI ?_
   refine y_val (r_indexAddrArr1 Tryz.underlying163 tyC22.size rfl rfl rfl (by omega)) rfl rfl ?_
   refine y_loadC 2 tyC22 rfl rfl rfl rfl rfl (wu_get (rk k) (by omega)) (by decide) ?_
   refine y_call (g_back _ _ _) en95 rfl rfl rfl rfl ?_
   refine y_storeA 0 tyA168 rfl rfl rfl rfl rfl rfl (by first | rfl | exact kc_len _ | exact kcf_len _ | exact boC_len _ _ | (simp; done)) (by first | rfl | exact kc_len _ | exact kcf_len _ | exact boC_len _ _ | (simp; done)) (by first | exact kc_one _ | exact kcf_one _ | exact boC_one _ _ | (simp [Value.oneCell']; done)) (by decide) ?_
   refine y_end ?_
   intro W hW
   refine n_block (n_then (c_reg ?_))
   refine aI ?_
   refine l_val (r_sub (m := ((31 - i : Nat) : Int)) (n := 1) (r := im1 (32 - (i + 1))) rfl rfl rfl (by rw [show 32 - (i + 1) = 31 - i by omega]; exact im1_dec (by omega))) rfl rfl ?_
   refine bI ?_
   refine l_end (n_then ?_)
   exact loop_next (i + 1) (by kernel_rfl) hW (by omega) (by omega)
  ·skip
   obtain rfl : 32 = i := by omega
   refine c_seq (c_seq (c_reg ?_))
   refine aI ?_
   refine l_val (r_geq (m := -1) (n := 0) rfl rfl rfl rfl) rfl rfl ?_
   refine l_end (n_then ?_)
   refine c_false rfl ?_
   refine c_exit (x_then (x_then ?_))
   refine x_hit ?_
   refine n_then (c_seq (c_reg ?_))
   refine dA hW 0 tyA168 ?_
   refine l_call hW (g_block _ _) en96 rfl rfl rfl rfl ?_
   intro W hW
   refine sA hW 3 tyA29 ?_
   intro W hW
   refine l_end (n_then (c_ret ?_))
   refine r_mark hW hDb hD ?_
   intro r W hW
   refine rC hW 3 tyA29 ?_
   exact ⟨rfl, hW.below⟩

end Go.Proofs.YtoegpalacppllaaGreat

/- What a trace proves: noise, deadness, who is named. No program is in sight here. -/
namespace Go.Proofs.YtoegpalacppllaaGreat.Tr
open Hn

/-- what holds of a box whenever it is asked -/
structure Okb (b : Bo) : Prop where
  n0 : 0 ≤ b.n
  n8 : b.n ≤ 8
  x0 : 0 ≤ b.x
  x1 : b.x ≤ b.a
theorem Okb.run {b0 b : Bo} {c : Nat} (k : Okb b0) (h : Askd b0 b c) : Okb b := ⟨by rw [h.n]; exact k.n0, by rw [h.n]; exact k.n8, h.x0, h.x1⟩
theorem Okb.refl {b : Bo} (k : Okb b) : Askd b b 0 := Askd.refl k.x0 k.x1
end Go.Proofs.YtoegpalacppllaaGreat.Tr

/- What a box plays: as its coalition knows; what is not open does not count; noise. No program is in sight here. -/
namespace Go.Proofs.YtoegpalacppllaaGreat.Tr
open Hn

theorem subsE_all {s : Sc} {l : List (Int × Int)} : subsE s l = 0 ↔ l.length ≤ 64 ∧ ∀ i, i < l.length → subB s (qn l i) (qm l i) = true :=
  ⟨fun h => subsE_ok (by omega), fun h => subsE_yes (by omega) h.2⟩
end Go.Proofs.YtoegpalacppllaaGreat.Tr

/- Keys of subsets, headers. No program is in sight here. -/
namespace Go.Proofs.YtoegpalacppllaaGreat.Tr
open Hn

/-- the label of a child -/
def stepP (k : Pl.Kw) (v : Nat) : Pl.Kw := if v % 2 = 0 then Pl.derive k 31 0 else Pl.derive k 32 0
/-- a label on its way down -/
def dk (k : Pl.Kw) (y n : Nat) : Nat → Pl.Kw
  | 0 => k
  | i + 1 => stepP (dk k y n i) (sh y (n - (i + 1)))
def descK (k : Pl.Kw) (v y : Nat) : Pl.Kw := dk k y (lev y - lev v) (lev y - lev v)
/-- the key of a subset -/
def keyN (k : Pl.Kw) (s : Sc) (v x : Nat) : Pl.Kw :=
  if s.k = 1 then Pl.derive k 30 (BitVec.ofNat 64 v) else if x = 0 then Pl.derive k 34 0 else Pl.derive (descK (Pl.derive k 30 (BitVec.ofNat 64 v)) v x) 33 0
theorem key_1 {k : Pl.Kw} {s : Sc} {v x : Nat} (h : s.k = 1) : keyN k s v x = Pl.derive k 30 (BitVec.ofNat 64 v) := if_pos h
theorem key_0 {k : Pl.Kw} {s : Sc} {v x : Nat} (h : ¬ s.k = 1) (h2 : x = 0) : keyN k s v x = Pl.derive k 34 0 := by rw [keyN, if_neg h, if_pos h2]
theorem key_n {k : Pl.Kw} {s : Sc} {v x : Nat} (h : ¬ s.k = 1) (h2 : ¬ x = 0) : keyN k s v x = Pl.derive (descK (Pl.derive k 30 (BitVec.ofNat 64 v)) v x) 33 0 := by rw [keyN, if_neg h, if_neg h2]
theorem sub_below {s : Sc} {v x : Int} (h : subB s v x = true) (hk : ¬ s.k = 1) (hx : ¬ x = 0) : belowN x.toNat v.toNat = true := by
  cases hb : belowN x.toNat v.toNat with
  | true => rfl
  | false =>
    cases hn : nodeB s.d v with
    | false => rw [sub_no1 hn] at h; cases h
    | true => rw [sub_no hn hk hx (.inr (.inr hb))] at h; cases h
/-- an item -/
structure It where
  v : Int
  x : Int
  k : Pl.Kw
def sealI (root se : Pl.Kw) (s : Sc) (q : Int × Int) : It := ⟨q.1, q.2, Pl.enc (keyN root s q.1.toNat q.2.toNat) se⟩
/-- what is sealed -/
def sealL (root se : Pl.Kw) (s : Sc) (l : List (Int × Int)) : List It := l.map (sealI root se s)
def fakeI (root se : Pl.Kw) (s : Sc) (i : Nat) (q : Int × Int) : It := ⟨q.1, q.2, Pl.enc (keyN root s q.1.toNat q.2.toNat) (Pl.derive se 80 (BitVec.ofNat 64 i))⟩
/-- the items of which the first are fakes -/
def hybL (root se : Pl.Kw) (s : Sc) (l : List (Int × Int)) (f : Nat) : List It := (List.range l.length).map fun i => if i < f then fakeI root se s i (qn l i, qm l i) else sealI root se s (qn l i, qm l i)
def sealE (s : Sc) (l : List (Int × Int)) : Int := if chk s ≠ 0 then chk s else subsE s l
theorem sealE_s {s : Sc} {l : List (Int × Int)} (h : chk s ≠ 0) : sealE s l = chk s := if_pos h
theorem sealE_l {s : Sc} {l : List (Int × Int)} (h : ¬ chk s ≠ 0) : sealE s l = subsE s l := if_neg h
def hybE (s : Sc) (l : List (Int × Int)) (f : Int) : Int := if partsE s l ≠ 0 then partsE s l else if f < 0 ∨ (l.length : Int) < f then 2 else 0
theorem hybE_p {s : Sc} {l : List (Int × Int)} {f : Int} (h : partsE s l ≠ 0) : hybE s l f = partsE s l := if_pos h
theorem hybE_f {s : Sc} {l : List (Int × Int)} {f : Int} (h : ¬ partsE s l ≠ 0) (h2 : f < 0 ∨ (l.length : Int) < f) : hybE s l f = 2 := by rw [hybE, if_neg h, if_pos h2]
theorem hybE_0 {s : Sc} {l : List (Int × Int)} {f : Int} (h : ¬ partsE s l ≠ 0) (h2 : ¬ (f < 0 ∨ (l.length : Int) < f)) : hybE s l f = 0 := by rw [hybE, if_neg h, if_neg h2]
theorem sealL_len (root se : Pl.Kw) (s : Sc) (l : List (Int × Int)) : (sealL root se s l).length = l.length := by simp [sealL]
theorem hybL_len (root se : Pl.Kw) (s : Sc) (l : List (Int × Int)) (f : Nat) : (hybL root se s l f).length = l.length := by simp [hybL]
theorem sealL_take {root se : Pl.Kw} {s : Sc} {l : List (Int × Int)} {i : Nat} (hi : i < l.length) : sealL root se s (l.take (i + 1)) = sealL root se s (l.take i) ++ [sealI root se s (qn l i, qm l i)] := by
  have e : (qn l i, qm l i) = l[i] := by simp [qn, qm, List.getD_eq_getElem?_getD, hi]
  rw [sealL, List.take_succ_eq_append_getElem hi, List.map_append, e]; rfl
theorem hybL_zero (root se : Pl.Kw) (s : Sc) (l : List (Int × Int)) : hybL root se s l 0 = sealL root se s l := by
  refine List.ext_getElem? fun i => ?_
  by_cases hi : i < l.length
  · have e : (qn l i, qm l i) = l[i] := by simp [qn, qm, List.getD_eq_getElem?_getD, hi]
    simp [hybL, sealL, hi, e]
  · rw [List.getElem?_eq_none (by rw [hybL_len]; omega), List.getElem?_eq_none (by rw [sealL_len]; omega)]
theorem hybL_get {root se : Pl.Kw} {s : Sc} {l : List (Int × Int)} {f i : Nat} (hi : i < l.length) : (hybL root se s l f)[i]? = some (if i < f then fakeI root se s i (qn l i, qm l i) else sealI root se s (qn l i, qm l i)) := by simp [hybL, hi]
theorem hybL_set {root se : Pl.Kw} {s : Sc} {l : List (Int × Int)} {f : Nat} (hf : f < l.length) : (hybL root se s l f).set f (fakeI root se s f (qn l f, qm l f)) = hybL root se s l (f + 1) := by
  refine List.ext_getElem? fun i => ?_
  rw [List.getElem?_set]
  by_cases hi : i < l.length
  · rw [hybL_get hi, hybL_get hi, hybL_len]
    by_cases e : f = i
    · subst e; rw [if_pos rfl, if_pos hi, if_pos (by omega)]
    · rw [if_neg e]
      congr 1
      by_cases h : i < f
      · rw [if_pos h, if_pos (by omega)]
      · rw [if_neg h, if_neg (by omega)]
  · rw [if_neg (by omega), List.getElem?_eq_none (by rw [hybL_len]; omega), List.getElem?_eq_none (by rw [hybL_len]; omega)]
end Go.Proofs.YtoegpalacppllaaGreat.Tr

/- Paths, yielded to the end. -/
namespace Go.Proofs.YtoegpalacppllaaGreat
open Go.RowKit Pl
open Tr Hn
set_option maxRecDepth 10000 in
/-- headend/cover.path$1 -/
theorem i_path (y n ga_ gb_ : Nat) (h0 : 0 < y) (hy : y < 128) (hn : n ≤ lev y) : Iter Tryz.prog 137 #[.pointer (some ⟨ga_, 0, none⟩), .pointer (some ⟨gb_, 0, none⟩)] n (fun i => #[.int .i64 ((sh y (n - (i + 1)) : Nat) : Int)]) [⟨gb_, [.int .i64 (y : Int)], 111⟩, ⟨ga_, [.int .i64 ((sh y n : Nat) : Int)], 111⟩] := by
 refine iter_of (lb := [.pointer (some ⟨ga_, 0, none⟩), .pointer (some ⟨gb_, 0, none⟩)]) (F := fun l => [.func (.yield l) #[] #[], .pointer (some ⟨ga_, 0, none⟩), .pointer (some ⟨gb_, 0, none⟩), undef, undef, undef, undef, undef, undef, undef, undef, undef, undef, undef, undef, undef]) Tryz.func137 rfl (fun l => rfl) ?_
 intro b l Lc W hY hW
 refine c_seq (c_reg ?_)
 refine l_loadC hW 1 tyC111 (v := .int .i64 ((sh y n : Nat) : Int)) rfl rfl rfl rfl rfl rfl ?_
 refine bI ?_
 refine l_end (n_then (c_block ?_))
 refine c_loop (fun (x : Nat) (j : Nat → Value) => [.func (.yield l) #[] #[], .pointer (some ⟨ga_, 0, none⟩), .pointer (some ⟨gb_, 0, none⟩), j 3, .int .i64 ((sh y (n - x) : Nat) : Int), .int .i64 ((sh y n : Nat) : Int), j 6, j 7, j 8, j 9, j 10, j 11, j 12, j 13, j 14, j 15]) (fun (x : Nat) => [] ++ ([⟨gb_, [.int .i64 (y : Int)], 111⟩, ⟨ga_, [.int .i64 ((sh y n : Nat) : Int)], 111⟩] ++ Lc x)) (fun (x : Nat) => x ≤ n) (fun (x : Nat) => n - x) 0 (by kernel_rfl) hW (Nat.zero_le _) ?_
 intro x j W hx hW
 have hlv := sh_lev hy (i := n - x) (by omega)
 have hle := sh_le y (n - x)
 have hpos : 0 < sh y (n - x) := sh_pos h0 hy (by omega)
 refine c_seq (c_seq (c_reg ?_))
 refine aI ?_
 refine l_loadC hW 0 tyC111 (v := .int .i64 (y : Int)) rfl rfl rfl rfl rfl rfl ?_
 refine l_val (r_neqN rfl rfl rfl rfl) rfl rfl ?_
 refine l_split ?_ ?_
 ·intro hc1
  replace hc1 := of_decide_eq_true hc1
  have hlt : x < n := Nat.lt_of_le_of_ne (by omega) fun e => hc1 (by rw [e, Nat.sub_self]; rfl)
  refine l_end (n_then ?_)
  refine c_true rfl ?_
  refine c_skip (n_then (c_block (c_seq (c_reg ?_))))
  refine aI ?_
  refine l_loadC hW 0 tyC111 (v := .int .i64 (y : Int)) rfl rfl rfl rfl rfl rfl ?_
  refine l_call hW (g_ptoward (sh y (n - x)) y hpos (by omega) h0 hy (by omega)) en110 rfl rfl rfl rfl ?_
  intro W hW
  rw [show lev y - lev (sh y (n - x)) - 1 = n - (x + 1) by omega]
  refine bI ?_
  refine l_end (n_then (c_seq (c_reg ?_)))
  refine l_val (r_move (v := .func _ _ _) rfl rfl) rfl rfl ?_
  refine aI ?_
  refine l_yield (hY x [] W (by omega) hW) rfl rfl rfl rfl rfl ?_
  intro W hW
  refine l_val (r_not rfl rfl) rfl rfl ?_
  refine l_end (n_then ?_)
  refine c_false rfl ?_
  refine c_skip (n_block (n_then ?_))
  exact loop_next (x + 1) (by kernel_rfl) hW (by omega) (by omega)
 ·intro hc1
  replace hc1 := of_decide_eq_false hc1
  have hxn : x = n := Classical.byContradiction fun hne => by rw [show sh y (n - x) = y by omega] at hlv; omega
  refine l_end (n_then ?_)
  refine c_false rfl ?_
  refine c_exit (x_then (x_then ?_))
  refine x_hit ?_
  refine postM_of ?_
  refine end_none rfl ?_
  exact ⟨⟨_, rfl⟩, hxn ▸ hW⟩

end Go.Proofs.YtoegpalacppllaaGreat

/- Keys of subsets, by the program. -/
namespace Go.Proofs.YtoegpalacppllaaGreat
open Go.RowKit Pl
open Tr Hn
set_option maxRecDepth 10000 in
/-- headend/cover.descend -/
theorem g_descendN (k : Kw) (y n : Nat) (h0 : 0 < y) (hy : y < 128) (hn : n ≤ lev y) : Gives Tryz.prog 66 [keyV k, .int .i64 ((sh y n : Nat) : Int), .int .i64 (y : Int)].toArray (keyV (dk k y n n)) := by
 refine givesM_of Tryz.func66 rfl (bs := [keyV k, .int .i64 ((sh y n : Nat) : Int), .int .i64 (y : Int), undef, undef, undef, undef, undef, undef, undef, undef, undef, undef, undef, undef, undef, undef, undef, undef, undef]) rfl ?_
 intro w hW
 refine c_seq (c_reg ?_)
 refine xB hW ?_
 intro g1 W hW
 refine l_alloc hW tyZ29 rfl rfl rfl ?_
 intro g2 W hW
 refine l_end (n_then (c_seq (c_seq (c_reg ?_))))
 refine aI ?_
 refine aI ?_
 refine l_callX hW (g_ppath (sh y n) y) en101 trivial rfl rfl rfl rfl ?_
 rintro _ Bs1 W ⟨ga_, gb_, rfl, rfl⟩ hW
 replace hW := hW.perm List.perm_append_comm
 refine l_end (n_then (c_block ?_))
 refine c_range (i_path y n ga_ gb_ h0 hy hn) en137 rfl (fun _ => rfl) (fun (i : Nat) => [⟨g2, z29, 29⟩, ⟨g1, kc (dk k y n i), 29⟩]) hW (fun (i : Nat) => fr [keyV k, .int .i64 ((sh y n : Nat) : Int), .int .i64 (y : Int), .pointer (some ⟨g1, 0, none⟩), undef, undef, .pointer (some ⟨g2, 0, none⟩), .int .i64 ((sh y (n - (i + 1)) : Nat) : Int), undef, .int .i64 ((sh y n : Nat) : Int), .int .i64 (y : Int), .func (.func 137) #[] #[.pointer (some ⟨ga_, 0, none⟩), .pointer (some ⟨gb_, 0, none⟩)], .int .i64 ((sh y (n - (i + 1)) : Nat) : Int), undef, undef, undef, undef, undef, undef, undef] [] []) (fun (i : Nat) => [keyV k, .int .i64 ((sh y n : Nat) : Int), .int .i64 (y : Int), .pointer (some ⟨g1, 0, none⟩), undef, undef, .pointer (some ⟨g2, 0, none⟩), undef, undef, .int .i64 ((sh y n : Nat) : Int), .int .i64 (y : Int), .func (.func 137) #[] #[.pointer (some ⟨ga_, 0, none⟩), .pointer (some ⟨gb_, 0, none⟩)], .int .i64 ((sh y (n - (i + 1)) : Nat) : Int), undef, undef, undef, undef, undef, undef, undef]) (fun _ => by kernel_rfl) ?_ ?_ ?_
 ·intro l i W
  refine c_reg ?_
  refine bI ?_
  refine l_end ?_
  refine n_then ⟨?_, rfl⟩
  exact congrArg (fun x => (fr x [] [] : Act)) (by kernel_rfl)
 ·intro l r i L W hi hW
  refine c_block (c_seq (c_reg ?_))
  refine bI ?_
  refine l_end (n_then (c_seq (c_seq (c_reg ?_))))
  refine aI ?_
  refine l_val (r_remN (n := 2) rfl rfl rfl (by omega)) rfl rfl ?_
  refine l_val (r_eqlN (n := 1) rfl rfl rfl rfl) rfl rfl ?_
  refine l_split ?_ ?_
  ·intro hc1
   replace hc1 := of_decide_eq_true hc1
   have hst : dk k y n (i + 1) = derive (dk k y n i) 32 0 := if_neg (by omega)
   refine l_end (n_then ?_)
   refine c_true rfl ?_
   refine c_reg ?_
   refine bI ?_
   refine l_end (n_then (c_reg ?_))
   refine dA hW 3 tyA29 ?_
   refine aI ?_
   refine l_call hW (g_Derive (dk k y n i) 32 0) en50 rfl rfl rfl rfl ?_
   intro W hW
   refine sA hW 3 tyA29 ?_
   intro W hW
   refine l_end (n_block ?_)
   exact ⟨rfl, hW.to (by simp only [hst]; rfl)⟩
  ·intro hc1
   replace hc1 := of_decide_eq_false hc1
   have hst : dk k y n (i + 1) = derive (dk k y n i) 31 0 := if_pos (by omega)
   refine l_end (n_then ?_)
   refine c_false rfl ?_
   refine c_skip (n_then (c_reg ?_))
   refine dA hW 3 tyA29 ?_
   refine aI ?_
   refine l_call hW (g_Derive (dk k y n i) 31 0) en50 rfl rfl rfl rfl ?_
   intro W hW
   refine sA hW 3 tyA29 ?_
   intro W hW
   refine l_end (n_block ?_)
   exact ⟨rfl, hW.to (by simp only [hst]; rfl)⟩
 ·intro D r W hDb hW hD
  refine n_block (n_then (c_seq (c_reg ?_)))
  refine dA hW 3 tyA29 ?_
  refine sA hW 2 tyA29 ?_
  intro W hW
  refine l_end (n_then (c_ret ?_))
  refine r_mark hW hDb hD ?_
  intro r W hW
  refine rC hW 2 tyA29 ?_
  exact ⟨rfl, hW.below⟩

/-- the label of a node below -/
theorem g_descend (k : Kw) (v y : Nat) (h0 : 0 < y) (hy : y < 128) (hb : belowN y v = true) : Gives Tryz.prog 66 [keyV k, .int .i64 (v : Int), .int .i64 (y : Int)].toArray (keyV (descK k v y)) := by
 have h := g_descendN k y (lev y - lev v) h0 hy (Nat.sub_le _ _)
 rw [(below_iff.1 hb).2] at h
 exact h
set_option maxRecDepth 10000 in
/-- headend/cover.nodeKey -/
theorem g_nodeKey (k : Kw) (v : Nat) : Gives Tryz.prog 67 [keyV k, .int .i64 (v : Int)].toArray (keyV (derive k 30 (BitVec.ofNat 64 v))) := by
 refine gives_of Tryz.func67 rfl (bs := [keyV k, .int .i64 (v : Int), undef, undef, undef, undef, undef, undef, undef]) rfl ?_
 intro w hW
 refine c_seq (c_reg ?_)
 refine xB hW ?_
 intro g1 W hW
 refine l_alloc hW tyZ29 rfl rfl rfl ?_
 intro g2 W hW
 refine l_end (n_then (c_seq (c_reg ?_)))
 refine dA hW 1 tyA29 ?_
 refine aI ?_
 refine l_val (r_conv_i64_u64 Tryz.underlying111 Tryz.underlying22 rfl rfl) rfl rfl ?_
 refine l_call hW (g_Derive k 30 (BitVec.ofNat 64 v)) en50 rfl rfl rfl rfl ?_
 intro W hW
 refine sA hW 0 tyA29 ?_
 intro W hW
 refine l_end (n_then (c_ret ?_))
 refine rC hW 0 tyA29 ?_
 exact ⟨rfl, hW.below⟩

set_option maxRecDepth 10000 in
/-- headend/cover.middle -/
theorem g_middle (k : Kw) : Gives Tryz.prog 111 [keyV k].toArray (keyV (derive k 33 0)) := by
 refine gives_of Tryz.func111 rfl (bs := [keyV k, undef, undef, undef, undef]) rfl ?_
 intro w hW
 refine c_seq (c_reg ?_)
 refine xB hW ?_
 intro g1 W hW
 refine l_alloc hW tyZ29 rfl rfl rfl ?_
 intro g2 W hW
 refine l_end (n_then (c_seq (c_reg ?_)))
 refine dA hW 1 tyA29 ?_
 refine l_call hW (g_Derive k 33 0) en50 rfl rfl rfl rfl ?_
 intro W hW
 refine sA hW 0 tyA29 ?_
 intro W hW
 refine l_end (n_then (c_ret ?_))
 refine rC hW 0 tyA29 ?_
 exact ⟨rfl, hW.below⟩

set_option maxRecDepth 10000 in
/-- (headend/cover.tree).key -/
theorem g_pkey (s : Sc) (k : Kw) (v x : Nat) (hx2 : x < 128) (hb : s.k ≠ 1 → x ≠ 0 → belowN x v = true) : Gives Tryz.prog 65 [.agg [.int .u8 s.k, .int .i64 s.d, .int .i64 (strideN s.d : Int)].toArray, keyV k, .agg [.int .i64 (v : Int), .int .i64 (x : Int)].toArray].toArray (keyV (keyN k s v x)) := by
 refine gives_of Tryz.func65 rfl (bs := [.agg [.int .u8 s.k, .int .i64 s.d, .int .i64 (strideN s.d : Int)].toArray, keyV k, .agg [.int .i64 (v : Int), .int .i64 (x : Int)].toArray, undef, undef, undef, undef, undef, undef, undef, undef, undef, undef, undef, undef, undef, undef, undef, undef, undef, undef, undef, undef, undef, undef, undef, undef, undef, undef, undef, undef, undef]) rfl ?_
 intro w hW
 refine c_seq (c_reg ?_)
 refine xB hW ?_
 intro g1 W hW
 refine xB hW ?_
 intro g2 W hW
 refine xB hW ?_
 intro g3 W hW
 refine l_alloc hW tyZ29 rfl rfl rfl ?_
 intro g4 W hW
 refine l_end (n_then (c_seq ?_))
 refine c_regY hW [] [.q, .q, .q, .q, .q, .q] [0, 1, 0, 4, 3, 31] (by kernel_rfl) (by kernel_rfl) ?_
 refine y_val (r_fieldAddr 0 Tryz.underlying64 rfl tyC3.size rfl rfl rfl) rfl rfl ?_
 refine y_loadC 1 tyC3 rfl rfl rfl rfl rfl rfl (by decide) ?_
 refine y_val (r_fieldAddr 1 Tryz.underlying64 rfl tyC3.size rfl rfl rfl) rfl rfl ?_
 refine y_loadC 1 tyC3 rfl rfl rfl rfl rfl rfl (by decide) ?_
 refine y_val (r_assign (v := .int _ _) rfl rfl) rfl rfl ?_
 refine y_val (r_assign (v := .int _ _) rfl rfl) rfl rfl ?_
 refine y_end ?_
 intro W hW
 refine n_then (c_seq (c_block (c_seq (c_reg ?_))))
 refine l_val (r_fieldAddr 0 Tryz.underlying106 rfl tyC5.size rfl rfl rfl) rfl rfl ?_
 refine dC hW 3 tyC5 ?_
 refine l_val (r_eql rfl rfl rfl rfl) rfl rfl ?_
 refine l_split ?_ ?_
 ·intro hc1
  replace hc1 := of_decide_eq_true hc1
  refine bB ?_
  refine l_end (n_then ?_)
  refine c_true rfl ?_
  refine c_seq (c_reg ?_)
  refine dA hW 2 tyA29 ?_
  refine aI ?_
  refine l_call hW (g_nodeKey k v) en67 rfl rfl rfl rfl ?_
  intro W hW
  refine sA hW 0 tyA29 ?_
  intro W hW
  refine l_end (n_then (c_ret (r_block (r_then ?_))))
  refine rC hW 0 tyA29 ?_
  exact ⟨by rw [key_1 hc1]; rfl, hW.below⟩
 ·intro hc1
  replace hc1 := of_decide_eq_false hc1
  refine bB ?_
  refine l_end (n_then ?_)
  refine c_false rfl ?_
  refine c_seq (c_reg ?_)
  refine aI ?_
  refine l_val (r_eqlN (n := 0) rfl rfl rfl rfl) rfl rfl ?_
  refine l_split ?_ ?_
  ·intro hc2
   replace hc2 := of_decide_eq_true hc2
   refine bB ?_
   refine l_end (n_then ?_)
   refine c_true rfl ?_
   refine c_seq (c_reg ?_)
   refine dA hW 2 tyA29 ?_
   refine l_call hW (g_Derive k 34 0) en50 rfl rfl rfl rfl ?_
   intro W hW
   refine sA hW 0 tyA29 ?_
   intro W hW
   refine l_end (n_then (c_ret (r_block (r_then ?_))))
   refine rC hW 0 tyA29 ?_
   exact ⟨by rw [key_0 hc1 hc2]; rfl, hW.below⟩
  ·intro hc2
   replace hc2 := of_decide_eq_false hc2
   refine bB ?_
   refine l_end (n_then ?_)
   refine c_false rfl ?_
   refine c_skip (n_block (n_then (c_seq (c_reg ?_))))
   refine dA hW 2 tyA29 ?_
   refine aI ?_
   refine l_call hW (g_nodeKey k v) en67 rfl rfl rfl rfl ?_
   intro W hW
   refine aI ?_
   refine aI ?_
   refine l_call hW (g_descend (derive k 30 (BitVec.ofNat 64 v)) v x (by omega) hx2 (hb hc1 hc2)) en66 rfl rfl rfl rfl ?_
   intro W hW
   refine l_call hW (g_middle (descK (derive k 30 (BitVec.ofNat 64 v)) v x)) en111 rfl rfl rfl rfl ?_
   intro W hW
   refine sA hW 0 tyA29 ?_
   intro W hW
   refine l_end (n_then (c_ret ?_))
   refine rC hW 0 tyA29 ?_
   exact ⟨by rw [key_n hc1 hc2]; rfl, hW.below⟩

set_option maxRecDepth 10000 in
/-- headend/cover.SubsetKey -/
theorem g_SubsetKey (s : Sc) (k : Kw) (v x : Nat) (hs : schB s = true) (hsub : subB s v x = true) : Gives Tryz.prog 48 [keyV k, .agg [.int .u8 s.k, .int .i64 s.d, .int .i64 s.g, .int .u64 s.p, .int .u64 s.q, .int .u64 s.r].toArray, .agg [.int .i64 (v : Int), .int .i64 (x : Int)].toArray].toArray (.tuple #[keyV (keyN k s v x), .int .i64 0]) := by
 refine gives_of Tryz.func48 rfl (bs := [keyV k, .agg [.int .u8 s.k, .int .i64 s.d, .int .i64 s.g, .int .u64 s.p, .int .u64 s.q, .int .u64 s.r].toArray, .agg [.int .i64 (v : Int), .int .i64 (x : Int)].toArray, undef, undef, undef, undef, undef, undef, undef, undef, undef, undef, undef, undef, undef, undef, undef, undef, undef, undef, undef, undef, undef, undef]) rfl ?_
 intro w hW
 obtain ⟨k1, k3, d0, d6, -⟩ := schB_iff.1 hs
 obtain ⟨hx1, hx2, hx3, hx4⟩ := sub_x d6 hsub
 refine c_seq (c_reg ?_)
 refine xB hW ?_
 intro g1 W hW
 refine xB hW ?_
 intro g2 W hW
 refine xB hW ?_
 intro g3 W hW
 refine l_alloc hW tyZ29 rfl rfl rfl ?_
 intro g4 W hW
 refine bI ?_
 refine l_end (n_then (c_seq (c_reg ?_)))
 refine dA hW 2 tyA26 ?_
 refine dA hW 1 tyA64 ?_
 refine l_buildSliceF hW (bsl33_1_0 _ _) rfl rfl rfl rfl ?_
 intro gb W hW
 refine l_callR hW (g_enter s (some ⟨gb, 0, none⟩) 1 1 [((v : Int), (x : Int))] hs (by simp)) en51 (RdB.one hW 0 rfl) rfl rfl rfl rfl ?_
 intro W hW
 have he0 : entE s [((v : Int), (x : Int))] = 0 := (entE_one s v x).trans (by rw [hsub]; rfl)
 rw [he0, entT_yes he0]
 refine l_val (r_move (v := .tuple _) rfl rfl) rfl rfl ?_
 refine l_val (r_extract (v := .agg _) rfl rfl rfl) rfl rfl ?_
 refine l_val (r_extract (v := .int _ _) rfl rfl rfl) rfl rfl ?_
 refine l_alloc hW tyZ106 rfl rfl rfl ?_
 intro g5 W hW
 refine sA hW 0 tyA106 ?_
 intro W hW
 refine bI ?_
 refine l_end (n_then (c_seq (c_seq (c_reg ?_))))
 refine aI ?_
 refine l_val (r_neq (b := false) rfl rfl rfl (by decide)) rfl rfl ?_
 refine l_end (n_then ?_)
 refine c_false rfl ?_
 refine c_skip (n_then (c_seq (c_reg ?_)))
 refine dA hW 0 tyA106 ?_
 refine dA hW 5 tyA29 ?_
 refine dA hW 3 tyA64 ?_
 refine l_call hW (g_pkey s k v x (by omega) (fun h1 h2 => sub_below hsub h1 (by omega))) en65 rfl rfl rfl rfl ?_
 intro W hW
 refine sA hW 2 tyA29 ?_
 intro W hW
 refine bI ?_
 refine l_end (n_then (c_ret ?_))
 refine rT hW 2 tyA29 ?_
 exact ⟨rfl, hW.below⟩

end Go.Proofs.YtoegpalacppllaaGreat

/- Headers and their items, as cells. No function of the program is in sight here. -/
namespace Go.Proofs.YtoegpalacppllaaGreat
open Go.RowKit Pl Tr Hn

/-- the cells of a header without points: its items, its check -/
abbrev hdC (s : Sl) (ck : Kw) : List Value := [.slice s.a s.n s.c, .int .u64 0, .slice none 0 0] ++ (kc (0#64, 0#64) ++ kc ck)
theorem hdC_len (s : Sl) (ck : Kw) : (hdC s ck).length = 35 := by simp [hdC, kc_len]
theorem hdC_one (s : Sl) (ck : Kw) : ∀ v ∈ hdC s ck, v.oneCell' = true := by
  intro v hv
  rcases List.mem_append.1 hv with h | h
  · simp only [List.mem_cons, List.not_mem_nil, or_false] at h
    rcases h with rfl | rfl | rfl <;> rfl
  · rcases List.mem_append.1 h with h | h
    · exact kc_one _ v h
    · exact kc_one _ v h
theorem hdC_key (s : Sl) (ck : Kw) : ((hdC s ck).drop 19).take 16 = kc ck := by
  have h : (hdC s ck).drop 19 = kc ck := by
    rw [hdC, ← List.append_assoc, List.drop_append_of_le_length (by simp [kc_len])]
    rw [List.drop_of_length_le (by simp [kc_len]), List.nil_append]
  rw [h, List.take_of_length_le (by rw [kc_len]; decide)]
/-- the cells of an item -/
def it1 (i : It) : List Value := [.int .i64 i.v, .int .i64 i.x] ++ kc i.k
theorem it1_len (i : It) : (it1 i).length = 18 := by simp [it1, kc_len]
theorem it1_eq (i : It) : it1 i = [.int .i64 i.v, .int .i64 i.x] ++ kc i.k := rfl
theorem it1_one (i : It) : ∀ v ∈ it1 i, v.oneCell' = true := by
  intro v hv
  rcases List.mem_append.1 hv with h | h
  · simp only [List.mem_cons, List.not_mem_nil, or_false] at h
    rcases h with rfl | rfl <;> rfl
  · exact kc_one _ v h
def itL : List It → List Value
  | [] => []
  | i :: l => it1 i ++ itL l
theorem itL_len : ∀ l, (itL l).length = l.length * 18
  | [] => rfl
  | i :: l => by rw [itL, List.length_append, it1_len, itL_len l, List.length_cons]; omega
theorem itL_append : ∀ l m, itL (l ++ m) = itL l ++ itL m
  | [], m => rfl
  | i :: l, m => by rw [List.cons_append, itL, itL, itL_append l m, List.append_assoc]
theorem itL_get : ∀ {l : List It} {i : Nat} {t : It}, l[i]? = some t → ((itL l).drop (i * 18)).take 18 = it1 t
  | [], i, t, h => by simp at h
  | x :: l, 0, t, h => by
    simp only [List.getElem?_cons_zero, Option.some.injEq] at h
    subst h
    rw [Nat.zero_mul, List.drop_zero, itL, List.take_append_of_le_length (by rw [it1_len]; omega), List.take_of_length_le (by rw [it1_len]; omega)]
  | x :: l, i + 1, t, h => by
    rw [List.getElem?_cons_succ] at h
    have := itL_get h
    rw [itL, List.drop_append, List.drop_of_length_le (by rw [it1_len]; omega), it1_len, List.nil_append, show (i + 1) * 18 - 18 = i * 18 by omega]
    exact this
theorem itL_put : ∀ {l : List It} {i : Nat} {t : It} (k : Kw), l[i]? = some t → (itL l).take (i * 18 + 2) ++ kc k ++ (itL l).drop (i * 18 + 2 + 16) = itL (l.set i ⟨t.v, t.x, k⟩)
  | [], i, t, k, h => by simp at h
  | x :: l, 0, t, k, h => by
    simp only [List.getElem?_cons_zero, Option.some.injEq] at h
    subst h
    have e : (it1 x ++ itL l).drop 18 = itL l := by rw [List.drop_append_of_le_length (by rw [it1_len]; omega), List.drop_of_length_le (by rw [it1_len]; omega), List.nil_append]
    simp only [Nat.zero_mul, Nat.zero_add, itL, List.set_cons_zero]
    rw [e]; rfl
  | x :: l, i + 1, t, k, h => by
    rw [List.getElem?_cons_succ] at h
    have ih := itL_put k h
    have hl := it1_len x
    have e1 : (it1 x ++ itL l).take ((i + 1) * 18 + 2) = it1 x ++ (itL l).take (i * 18 + 2) := by
      rw [List.take_append, List.take_of_length_le (by omega), hl]; congr 2; omega
    have e2 : (it1 x ++ itL l).drop ((i + 1) * 18 + 2 + 16) = (itL l).drop (i * 18 + 2 + 16) := by
      rw [List.drop_append, List.drop_of_length_le (by omega), hl, List.nil_append]; congr 1; omega
    simp only [itL, List.set_cons_succ]
    rw [e1, e2, ← ih, List.append_assoc, List.append_assoc, List.append_assoc]
theorem take_put {cur xs vs : List Value} {N j m : Nat} (h : cur.take N = xs) (hj : j + m ≤ N) (hv : vs.length = m) (hc : N ≤ cur.length) : (cur.take j ++ vs ++ cur.drop (j + m)).take N = xs.take j ++ vs ++ xs.drop (j + m) := by
  subst h
  have h1 : (cur.take j ++ vs).length = j + m := by rw [List.length_append, List.length_take, hv]; omega
  rw [List.take_append, h1, List.take_of_length_le (by rw [h1]; omega), List.take_take, Nat.min_eq_left (by omega), List.drop_take]
/-- a row whose element was put anew -/
theorem OwnSl.item {e : TypeId} {g n c i : Nat} {cur : List Value} {l : List It} {t : It} (h : OwnSl e 18 (some ⟨g, 0, none⟩) n c (itL l) [⟨g, cur, e⟩]) (hi : l[i]? = some t) (k : Kw) : OwnSl e 18 (some ⟨g, 0, none⟩) n c (itL (l.set i ⟨t.v, t.x, k⟩)) [⟨g, cur.take (i * 18 + 2) ++ kc k ++ cur.drop (i * 18 + 2 + 16), e⟩] := by
  have hl := h.1
  have hil := (List.getElem?_eq_some_iff.1 hi).1
  rw [itL_len] at hl
  refine ⟨by rw [itL_len, List.length_set]; omega, .inr ⟨g, _, rfl, rfl, ?_⟩⟩
  rcases h.2 with ⟨h0, -⟩ | ⟨g2, cur2, h1, h2, h3, h4, h5, h6⟩
  · cases h0
  · simp only [List.cons.injEq, Blk.mk.injEq, and_true] at h2
    obtain ⟨rfl, rfl⟩ := h2
    have hm : n * 18 ≤ cur.length := by rw [h5]; exact Nat.mul_le_mul_right 18 h3
    refine ⟨h3, h4, ?_, ?_⟩
    · rw [List.length_append, List.length_append, List.length_take, List.length_drop, kc_len]; omega
    · rw [take_put h6 (by omega) (kc_len k) hm]; exact itL_put k hi
section
variable {P : Program} {ops : Array Oper} {Q : Exit → Act → World → Prop} {bs : List Value} {us : List (Nat × Value)} {ds : List Deferred} {w0 : Base} {W : World} {rest : List Oper} {o : Oper} {L : List Blk} {d : Nat} {S : List Nat} {ks : List Kd} {ms : List Mk} {V : List (List Value)} {R : Act → St → Prop} {T : List Oper → Act → St → Prop}
/-- cells in a row that lie there in each world -/
theorem y_loadRA {t : TypeId} {n : Nat} (ht : TyA P t n) {x : Operand} {b i : Nat} {vs : List Value} (hc : ∀ L2 w, Sim S L L2 → Cl w0 L2 w → ∀ j v, vs[j]? = some v → w.cell? ⟨b, i + j, none⟩ = some v) (hn : vs.length = n) (hw : Region.wanted o (yielded ops (fr bs us ds).tmps) = true) (ho : o.op = .load t x) (hx : ev bs us x = .pointer (some ⟨b, i, none⟩)) (hd : o.dst = some d)
    (h : lx P ops w0 S ms R T ks rest (fr bs ((d, .agg vs.toArray) :: us) ds) (L, V)) : lx P ops w0 S ms R T (.q :: ks) (o :: rest) (fr bs us ds) (L, V) :=
  ⟨.agg vs.toArray, (L, V), ⟨fun L2 hs => yields_run hw fun w hC => by
    rw [eval_ev]
    have hl : (loadCells ⟨b, i, none⟩ vs.length).run P w = .ok vs.toArray w := run_loadCells_list (P := P) w ⟨b, i, none⟩ vs (fun j v hv => by
      rw [Addr.add_lit]
      exact hc L2 w hs hC j v hv)
    rw [hn] at hl
    unfold execOp
    simp only [ho, hx, Instr.loadAt, Instr.sureAddr, Sem.run_bind, Sem.run_pure, Result.andThen_ok]
    simp [loadVar, ht.agg w, ht.size w, hl], rfl⟩, by simp only [putK, hd, put_st]; exact h⟩
end
/-- an item that is read -/
theorem OwnSl.itAt {e : TypeId} {a : Option Addr} {n c i : Nat} {l : List It} {Bs : List Blk} {t : It} (h : OwnSl e 18 a n c (itL l) Bs) (hi : l[i]? = some t) : ∃ g, a = some ⟨g, 0, none⟩ ∧ Rep Bs fun W => ∀ j v, (it1 t)[j]? = some v → W.cell? ⟨g, i * 18 + j, none⟩ = some v := by
  have hl := h.1
  have hil := (List.getElem?_eq_some_iff.1 hi).1
  rw [itL_len] at hl
  obtain ⟨g, cur, ha, hB, h1, h2, h3⟩ := h.row (by omega)
  refine ⟨g, ha, fun b W hW j v hv => ?_⟩
  subst hB
  rw [← Addr.add_lit, cells_of (hW.at 0 rfl)]
  have hj := (List.getElem?_eq_some_iff.1 hv).1
  rw [it1_len] at hj
  have h4 := itL_get hi
  rw [← h3] at h4
  rw [← h4, List.getElem?_take_of_lt hj, List.getElem?_drop, List.getElem?_take_of_lt (by omega)] at hv
  exact hv
end Go.Proofs.YtoegpalacppllaaGreat

/- Headers, by the program. -/
namespace Go.Proofs.YtoegpalacppllaaGreat
open Go.RowKit Pl
open Tr Hn
theorem bld_hd (k : Kw) : ∀ w, (Instr.build 51 [(4, keyV k)].toArray).run Tryz.prog w = .ok (.agg (hdC Sl.no k).toArray) w := fun _ => by kernel_rfl
theorem bld_it (v x : Int) (k : Kw) : ∀ w, (Instr.build 100 [(0, .agg [.int .i64 v, .int .i64 x].toArray), (1, keyV k)].toArray).run Tryz.prog w = .ok (.agg (it1 ⟨v, x, k⟩).toArray) w := fun _ => by kernel_rfl
theorem bsl_it (i : It) : ∀ w, (Instr.buildSlice 48 1 [(0, .agg (it1 i).toArray)].toArray).run Tryz.prog w = .ok (.slice (some ⟨w.heap.size, 0, none⟩) 1 1) (w.alloc (.cells (it1 i).toArray 100)) := fun _ => by kernel_rfl
/-- the key of a subset, of whole numbers -/
theorem g_pkeyZ (s : Sc) (k : Kw) (v x : Int) (hs : schB s = true) (hsub : subB s v x = true) : Gives Tryz.prog 65 [.agg [.int .u8 s.k, .int .i64 s.d, .int .i64 (strideN s.d : Int)].toArray, keyV k, .agg [.int .i64 v, .int .i64 x].toArray].toArray (keyV (keyN k s v.toNat x.toNat)) := by
 obtain ⟨hx1, hx2, hx3, hx4⟩ := sub_x (schB_iff.1 hs).2.2.2.1 hsub
 obtain ⟨v', rfl⟩ : ∃ n : Nat, v = n := ⟨v.toNat, by omega⟩
 obtain ⟨x', rfl⟩ : ∃ n : Nat, x = n := ⟨x.toNat, by omega⟩
 exact g_pkey s k v' x' (by omega) fun h1 h2 => sub_below hsub h1 (by omega)
theorem g_SubsetKeyZ (s : Sc) (k : Kw) (v x : Int) (hs : schB s = true) (hsub : subB s v x = true) : Gives Tryz.prog 48 [keyV k, .agg [.int .u8 s.k, .int .i64 s.d, .int .i64 s.g, .int .u64 s.p, .int .u64 s.q, .int .u64 s.r].toArray, .agg [.int .i64 v, .int .i64 x].toArray].toArray (.tuple #[keyV (keyN k s v.toNat x.toNat), .int .i64 0]) := by
 obtain ⟨hx1, hx2, hx3, hx4⟩ := sub_x (schB_iff.1 hs).2.2.2.1 hsub
 obtain ⟨v', rfl⟩ : ∃ n : Nat, v = n := ⟨v.toNat, by omega⟩
 obtain ⟨x', rfl⟩ : ∃ n : Nat, x = n := ⟨x.toNat, by omega⟩
 exact g_SubsetKey s k v' x' hs hsub
set_option maxRecDepth 10000 in
set_option maxHeartbeats 1000000 in
/-- headend/cover.Seal -/
theorem g_Seal (root : Kw) (s : Sc) (ra : Option Addr) (rn rc : Nat) (l : List (Int × Int)) (se : Kw) (hq : l.length ≤ 100) : GivesX Tryz.prog 20 [keyV root, .agg [.int .u8 s.k, .int .i64 s.d, .int .i64 s.g, .int .u64 s.p, .int .u64 s.q, .int .u64 s.r].toArray, .slice ra rn rc, keyV se].toArray (fun w => RdB w ⟨ra, rn, rc⟩ l) (fun u Bs => ∃ (h : Sl) (ck : Kw), u = .tuple #[.agg (hdC h ck).toArray, .int .i64 (sealE s l)] ∧ (sealE s l ≠ 0 → h.n = 0) ∧ (sealE s l = 0 → ck = derive se 53 0 ∧ h.n = l.length ∧ OwnSl 100 18 h.a h.n h.c (itL (sealL root se s l)) Bs)) := by
 refine givesX_of Tryz.func20 rfl (bs := [keyV root, .agg [.int .u8 s.k, .int .i64 s.d, .int .i64 s.g, .int .u64 s.p, .int .u64 s.q, .int .u64 s.r].toArray, .slice ra rn rc, keyV se, undef, undef, undef, undef, undef, undef, undef, undef, undef, undef, undef, undef, undef, undef, undef, undef, undef, undef, undef, undef, undef, undef, undef, undef, undef, undef, undef, undef, undef, undef, undef, undef, undef, undef, undef, undef, undef, undef, undef, undef, undef, undef, undef, undef, undef, undef, undef, undef, undef, undef, undef, undef, undef, undef, undef, undef]) rfl ?_
 intro w hP hW
 have hn : rn = l.length := hP.len
 refine c_seq (c_reg ?_)
 refine xB hW ?_
 intro g1 W hW
 refine xB hW ?_
 intro g2 W hW
 refine xB hW ?_
 intro g3 W hW
 refine l_alloc hW tyZ51 rfl rfl rfl ?_
 intro g4 W hW
 refine bI ?_
 refine l_end (n_then (c_seq (c_seq (c_reg ?_))))
 refine dA hW 2 tyA26 ?_
 refine l_call hW (g_Check _) en68 rfl rfl rfl rfl ?_
 intro W hW
 refine bI ?_
 refine l_end (n_then (c_seq (c_reg ?_)))
 refine aI ?_
 refine l_val (r_neq rfl rfl rfl rfl) rfl rfl ?_
 refine l_split ?_ ?_
 ·intro hc1
  replace hc1 := of_decide_eq_true hc1
  refine l_end (n_then ?_)
  refine c_true rfl ?_
  refine c_seq (c_reg ?_)
  refine l_val (r_build (ps := []) (bld51_) rfl rfl) rfl rfl ?_
  refine aI ?_
  refine sA hW 0 tyA51 ?_
  intro W hW
  refine bI ?_
  refine l_end (n_then (c_ret (r_then ?_)))
  refine ret_cell_tmp hW 0 tyA51 rfl rfl rfl (by first | exact hdC_len _ _ | rfl | (simp; done)) rfl ?_
  have eE : sealE s l = chk s := sealE_s hc1
  exact ⟨_, [], rfl, ⟨Sl.no, (0#64, 0#64), by rw [eE]; rfl, fun _ => rfl, fun h => absurd (eE.symm.trans h) hc1⟩, hW.sub (List.nil_sublist _)⟩
 ·intro hc1
  replace hc1 := of_decide_eq_false hc1
  have hs := chk_zero hc1
  refine l_end (n_then ?_)
  refine c_false rfl ?_
  refine c_skip (n_then (c_seq (c_seq (c_reg ?_))))
  refine aS ?_
  refine l_val (r_lenSlice Tryz.underlying33 rfl rfl) rfl rfl ?_
  refine l_val (r_gtrN (n := 64) rfl rfl rfl rfl) rfl rfl ?_
  refine l_split ?_ ?_
  ·intro hc2
   replace hc2 := of_decide_eq_true hc2
   refine l_end (n_then ?_)
   refine c_true rfl ?_
   refine c_seq (c_reg ?_)
   refine l_val (r_build (ps := []) (bld51_) rfl rfl) rfl rfl ?_
   refine sA hW 0 tyA51 ?_
   intro W hW
   refine bI ?_
   refine l_end (n_then (c_ret (r_then ?_)))
   refine ret_cell_tmp hW 0 tyA51 rfl rfl rfl (by first | exact hdC_len _ _ | rfl | (simp; done)) rfl ?_
   have eE : sealE s l = 4 := (sealE_l hc1).trans (subsE_many (by omega))
   exact ⟨_, [], rfl, ⟨Sl.no, (0#64, 0#64), by rw [eE]; rfl, fun _ => rfl, fun h => absurd (eE.symm.trans h) (by decide)⟩, hW.sub (List.nil_sublist _)⟩
  ·intro hc2
   replace hc2 := of_decide_eq_false hc2
   refine l_end (n_then ?_)
   refine c_false rfl ?_
   refine c_skip (n_then (c_seq (c_reg ?_)))
   refine dA hW 2 tyA26 ?_
   refine aS ?_
   refine l_callR hW (g_enter s ra rn rc l hs hq) en51 (hP.past hW.below) rfl rfl rfl rfl ?_
   intro W hW
   refine l_val (r_move (v := .tuple _) rfl rfl) rfl rfl ?_
   refine l_val (r_extract (v := .agg _) rfl rfl rfl) rfl rfl ?_
   refine l_val (r_extract (v := .int _ _) rfl rfl rfl) rfl rfl ?_
   refine l_alloc hW tyZ106 rfl rfl rfl ?_
   intro g5 W hW
   refine l_storeA hW 0 tyA106 rfl rfl rfl rfl rfl rfl rfl (entT_len _ _) (entT_one _ _) ?_
   intro W hW
   refine bI ?_
   refine l_end (n_then (c_seq (c_seq (c_reg ?_))))
   refine aI ?_
   refine l_val (r_neq rfl rfl rfl rfl) rfl rfl ?_
   refine l_split ?_ ?_
   ·intro hc3
    replace hc3 := of_decide_eq_true hc3
    refine l_end (n_then ?_)
    refine c_true rfl ?_
    refine c_seq (c_reg ?_)
    refine l_val (r_build (ps := []) (bld51_) rfl rfl) rfl rfl ?_
    refine aI ?_
    refine sA hW 1 tyA51 ?_
    intro W hW
    refine bI ?_
    refine l_end (n_then (c_ret (r_then ?_)))
    refine ret_cell_tmp hW 1 tyA51 rfl rfl rfl (by first | exact hdC_len _ _ | rfl | (simp; done)) rfl ?_
    have eE : sealE s l = entE s l := by rw [sealE_l hc1, subsE, if_neg (by omega)]; rfl
    exact ⟨_, [], rfl, ⟨Sl.no, (0#64, 0#64), by rw [eE]; rfl, fun _ => rfl, fun h => absurd (eE.symm.trans h) hc3⟩, hW.sub (List.nil_sublist _)⟩
   ·intro hc3
    replace hc3 := of_decide_eq_false hc3
    have hent0 : entE s l = 0 := by omega
    replace hW := (show Cl _ (⟨_, entT s l, _⟩ :: _) _ from hW)
    rw [entT_yes hent0] at hW
    have hsb : ∀ i, i < l.length → subB s (qn l i) (qm l i) = true := fun i hi => by
     cases hb : subB s (qn l i) (qm l i) with
     | true => rfl
     | false => rw [entE_no hi hb] at hent0; exact absurd hent0 (by decide)
    refine l_end (n_then ?_)
    refine c_false rfl ?_
    refine c_skip (n_then (c_seq (c_reg ?_)))
    refine dA hW 2 tyA29 ?_
    refine l_call hW (g_Derive se 53 0) en50 rfl rfl rfl rfl ?_
    intro W hW
    refine l_val (r_build (ps := [(4, .agg _)]) (bld_hd _) rfl rfl) rfl rfl ?_
    refine l_alloc hW tyZ51 rfl rfl rfl ?_
    intro g6 W hW
    refine l_storeA hW 0 tyA51 rfl rfl rfl rfl rfl rfl rfl (hdC_len _ _) (hdC_one _ _) ?_
    intro W hW
    refine l_end (n_then (c_seq (c_seq (c_reg ?_))))
    refine aS ?_
    refine l_val (r_lenSlice Tryz.underlying33 rfl rfl) rfl rfl ?_
    refine aI ?_
    refine l_end (n_then (c_block ?_))
    refine c_loop (fun (z : Nat × Option Addr × Nat × List Blk) (j : Nat → Value) => [keyV root, .agg [.int .u8 s.k, .int .i64 s.d, .int .i64 s.g, .int .u64 s.p, .int .u64 s.q, .int .u64 s.r].toArray, .slice ra rn rc, keyV se, .pointer (some ⟨g1, 0, none⟩), .pointer (some ⟨g2, 0, none⟩), j 6, .pointer (some ⟨g3, 0, none⟩), .pointer (some ⟨g4, 0, none⟩), .int .i64 0, .int .i64 (chk s), .pointer (some ⟨g5, 0, none⟩), .int .i64 (entE s l), .pointer (some ⟨g6, 0, none⟩), j 14, j 15, .agg ([.int .u8 s.k, .int .i64 s.d, .int .i64 s.g, .int .u64 s.p, .int .u64 s.q, .int .u64 s.r]).toArray, .int .i64 (chk s), .int .i64 (chk s), .bool false, j 20, j 21, .slice ra rn rc, .int .i64 (rn : Int), .bool false, j 25, .tuple #[.agg (entT s l).toArray, .int .i64 (entE s l)], .agg ([.int .u8 s.k, .int .i64 s.d, .int .i64 s.g, .int .u64 s.p, .int .u64 s.q, .int .u64 s.r]).toArray, .slice ra rn rc, .tuple #[.agg (entT s l).toArray, .int .i64 (entE s l)], .agg (entT s l).toArray, .int .i64 (entE s l), .int .i64 (entE s l), .bool false, j 34, j 35, .agg (kc se).toArray, j 37, .agg (hdC Sl.no (derive se 53 0)).toArray, .slice ra rn rc, .int .i64 (rn : Int), .int .i64 (z.1 : Int), j 42, j 43, j 44, j 45, j 46, j 47, j 48, j 49, j 50, j 51, j 52, j 53, j 54, j 55, j 56, j 57, j 58, j 59]) (fun (z : Nat × Option Addr × Nat × List Blk) => [⟨g6, (hdC ⟨z.2.1, z.1, z.2.2.1⟩ (derive se 53 0)), 51⟩, ⟨g5, [.int .u8 s.k, .int .i64 s.d, .int .i64 (strideN s.d : Int)], 106⟩, ⟨g4, z51, 51⟩, ⟨g3, kc se, 29⟩, ⟨g2, [.int .u8 s.k, .int .i64 s.d, .int .i64 s.g, .int .u64 s.p, .int .u64 s.q, .int .u64 s.r], 26⟩, ⟨g1, kc root, 29⟩] ++ z.2.2.2) (fun (z : Nat × Option Addr × Nat × List Blk) => z.1 ≤ rn ∧ OwnSl 100 18 z.2.1 z.1 z.2.2.1 (itL (sealL root se s (l.take z.1))) z.2.2.2) (fun (z : Nat × Option Addr × Nat × List Blk) => rn - z.1) (0, none, 0, []) (by kernel_rfl) (by simpa using hW) ⟨Nat.zero_le _, OwnSl.nil 100 18⟩ ?_
    intro z j W hx hW
    obtain ⟨hz, hO⟩ := hx
    refine c_seq (c_reg ?_)
    refine l_val (r_lssN rfl rfl rfl rfl) rfl rfl ?_
    refine l_split ?_ ?_
    ·intro hc4
     replace hc4 := of_decide_eq_true hc4
     obtain ⟨b0, o0, ha, hc⟩ := hP.ptr (by omega)
     refine l_end (n_then (c_seq ?_))
     refine c_true rfl ?_
     refine c_skip (n_then (c_seq (c_block (c_seq (c_reg ?_)))))
     refine l_val (r_indexAddrSlB (n := z.1) Tryz.underlying33 tyA64.size rfl (congrArg (fun a => Value.slice a rn rc) ha) rfl (by omega)) rfl rfl ?_
     refine l_loadF2 hW tyA64 (hc z.1 (by omega)).1 (hc z.1 (by omega)).2 rfl rfl rfl rfl ?_
     refine l_alloc hW tyZ64 rfl rfl rfl ?_
     intro g7 W hW
     refine sA hW 0 tyA64 ?_
     intro W hW
     refine l_end (n_then ?_)
     refine c_regM hW [] [.q, .q, .q, .q, .q, .q, .q, .q, .q, .q, .mk 0, .tail, .tail, .tail] [⟨55, bslX 100 1⟩] [it1 (sealI root se s (qn l z.1, qm l z.1))] [10] [0, 1, 0, 0, 0, 0, 56, 0, 248, 508, 1020, 2047, 4095, 8191] (by kernel_rfl) (by kernel_rfl) rfl (by kernel_rfl) ?_
     refine y_val (r_fieldAddr 0 Tryz.underlying51 rfl tyC48.size rfl rfl rfl) rfl rfl ?_
     refine y_loadC 1 tyC48 rfl rfl rfl rfl rfl rfl (by decide) ?_
     refine y_loadA 0 tyA64 rfl rfl rfl rfl rfl (by first | rfl | exact kc_len _ | exact kcf_len _ | exact boC_len _ _ | (simp; done)) (by decide) ?_
     refine y_loadA 2 tyA106 rfl rfl rfl rfl rfl (by first | rfl | exact kc_len _ | exact kcf_len _ | exact boC_len _ _ | (simp; done)) (by decide) ?_
     refine y_loadA 6 tyA29 rfl rfl rfl rfl rfl (by first | rfl | exact kc_len _ | exact kcf_len _ | exact boC_len _ _ | (simp; done)) (by decide) ?_
     refine y_loadA 0 tyA64 rfl rfl rfl rfl rfl (by first | rfl | exact kc_len _ | exact kcf_len _ | exact boC_len _ _ | (simp; done)) (by decide) ?_
     refine y_call (g_pkeyZ s root (qn l z.1) (qm l z.1) hs (hsb z.1 (by omega))) en65 rfl rfl rfl rfl ?_
     refine y_loadA 4 tyA29 rfl rfl rfl rfl rfl (by first | rfl | exact kc_len _ | exact kcf_len _ | exact boC_len _ _ | (simp; done)) (by decide) ?_
     refine y_call (g_Encrypt (keyN root s (qn l z.1).toNat (qm l z.1).toNat) se) en69 rfl rfl rfl rfl ?_
     refine y_val (r_build (ps := [(0, .agg _), (1, .agg _)]) (bld_it _ _ _) rfl rfl) rfl rfl ?_
     refine y_buildSliceF 0 (bsl_it _) rfl rfl rfl rfl ?_
     refine y_tail ?_
     refine y_made ?_
     rintro _ _ ⟨gs, rfl, rfl⟩
     intro W hW
     refine l_appendB tyE48 (L := [_, _, _, _, _, _, _, _]) hO hW 0 (N := z.1 + 1) rfl rfl rfl rfl rfl rfl rfl (it1_len _) (it1_one _) (by unfold maxLen; omega) (by omega) ?_
     intro a1 c1 Bs1 W hO1 hW
     replace hO1 := hO1.castx rfl (xs' := itL (sealL root se s (l.take (z.1 + 1)))) (by rw [sealL_take (by omega), itL_append]; simp [itL])
     refine l_val (r_fieldAddr 0 Tryz.underlying51 rfl tyC48.size rfl rfl rfl) rfl rfl ?_
     refine l_storeC hW 2 tyC48 (v := .slice a1 (z.1 + 1) c1) rfl rfl rfl rfl rfl rfl (by rw [hdC_len]; decide) rfl ?_
     intro W hW
     refine l_end (n_block (n_then (c_reg ?_)))
     refine l_val (r_addN (n := 1) rfl rfl rfl (by omega)) rfl rfl ?_
     refine aI ?_
     refine l_end (n_then ?_)
     exact loop_next (z.1 + 1, a1, c1, Bs1) (by kernel_rfl) (hW.drop 2) ⟨by simp only; omega, hO1⟩ (by simp only; omega)
    ·intro hc4
     replace hc4 := of_decide_eq_false hc4
     refine l_end (n_then (c_seq ?_))
     refine c_false rfl ?_
     refine c_exit (x_then (x_then ?_))
     refine x_hit ?_
     refine n_then (c_seq (c_reg ?_))
     refine l_loadA hW 0 tyA51 rfl rfl rfl rfl rfl (hdC_len _ _) ?_
     refine l_storeA hW 2 tyA51 rfl rfl rfl rfl rfl rfl rfl (hdC_len _ _) (hdC_one _ _) ?_
     intro W hW
     refine bI ?_
     refine l_end (n_then (c_ret ?_))
     refine ret_cell_tmp hW 2 tyA51 rfl rfl rfl (by first | exact hdC_len _ _ | rfl | (simp; done)) rfl ?_
     have eE : sealE s l = 0 := by rw [sealE_l hc1, subsE, if_neg (by omega)]; exact hent0
     have ez : z.1 = l.length := by omega
     rw [ez, List.take_of_length_le (Nat.le_refl _)] at hO
     exact ⟨_, z.2.2.2, rfl, ⟨⟨z.2.1, z.1, z.2.2.1⟩, derive se 53 0, by rw [eE]; rfl, fun h => absurd eE h, fun _ => ⟨rfl, ez, by rw [ez]; exact hO⟩⟩, (show Cl _ ([_, _, _, _, _, _] ++ z.2.2.2) _ from hW).sub (List.sublist_append_right _ _)⟩

end Go.Proofs.YtoegpalacppllaaGreat

/- Headers of queries, by the program. -/
namespace Go.Proofs.YtoegpalacppllaaGreat
open Go.RowKit Pl
open Tr Hn
set_option maxRecDepth 10000 in
set_option maxHeartbeats 1000000 in
/-- headend/trace.Hybrid -/
theorem g_Hybrid (root : Kw) (s : Sc) (ra : Option Addr) (rn rc : Nat) (l : List (Int × Int)) (f : Int) (se : Kw) (hq : l.length ≤ 100) : GivesX Tryz.prog 47 [keyV root, .agg [.int .u8 s.k, .int .i64 s.d, .int .i64 s.g, .int .u64 s.p, .int .u64 s.q, .int .u64 s.r].toArray, .slice ra rn rc, .int .i64 f, keyV se].toArray (fun w => RdB w ⟨ra, rn, rc⟩ l) (fun u Bs => ∃ (h : Sl) (ck : Kw), u = .tuple #[.agg (hdC h ck).toArray, .int .i64 (hybE s l f)] ∧ (hybE s l f ≠ 0 → h.n = 0) ∧ (hybE s l f = 0 → ck = derive se 53 0 ∧ h.n = l.length ∧ OwnSl 100 18 h.a h.n h.c (itL (hybL root se s l f.toNat)) Bs)) := by
 refine givesX_of Tryz.func47 rfl (bs := [keyV root, .agg [.int .u8 s.k, .int .i64 s.d, .int .i64 s.g, .int .u64 s.p, .int .u64 s.q, .int .u64 s.r].toArray, .slice ra rn rc, .int .i64 f, keyV se, undef, undef, undef, undef, undef, undef, undef, undef, undef, undef, undef, undef, undef, undef, undef, undef, undef, undef, undef, undef, undef, undef, undef, undef, undef, undef, undef, undef, undef, undef, undef, undef, undef, undef, undef, undef, undef, undef, undef, undef, undef, undef, undef, undef, undef, undef, undef, undef, undef, undef, undef, undef, undef, undef, undef, undef, undef, undef, undef, undef, undef, undef, undef, undef, undef, undef, undef, undef, undef, undef, undef, undef]) rfl ?_
 intro w hP hW
 have hn : rn = l.length := hP.len
 refine c_seq (c_reg ?_)
 refine xB hW ?_
 intro g1 W hW
 refine xB hW ?_
 intro g2 W hW
 refine xB hW ?_
 intro g3 W hW
 refine l_alloc hW tyZ51 rfl rfl rfl ?_
 intro g4 W hW
 refine bI ?_
 refine l_end (n_then (c_seq (c_seq (c_reg ?_))))
 refine dA hW 2 tyA26 ?_
 refine aS ?_
 refine l_callR hW (g_CheckParts s ra rn rc l hq) en37 (hP.past hW.below) rfl rfl rfl rfl ?_
 intro W hW
 refine bI ?_
 refine l_end (n_then (c_seq (c_reg ?_)))
 refine aI ?_
 refine l_val (r_neq rfl rfl rfl rfl) rfl rfl ?_
 refine l_split ?_ ?_
 ·intro hc1
  replace hc1 := of_decide_eq_true hc1
  refine l_end (n_then ?_)
  refine c_true rfl ?_
  refine c_seq (c_reg ?_)
  refine l_val (r_build (ps := []) (bld51_) rfl rfl) rfl rfl ?_
  refine aI ?_
  refine sA hW 0 tyA51 ?_
  intro W hW
  refine bI ?_
  refine l_end (n_then (c_ret (r_then ?_)))
  refine ret_cell_tmp hW 0 tyA51 rfl rfl rfl (by first | exact hdC_len _ _ | rfl | (simp; done)) rfl ?_
  have eE : hybE s l f = partsE s l := hybE_p hc1
  exact ⟨_, [], rfl, ⟨Sl.no, (0#64, 0#64), by rw [eE]; rfl, fun _ => rfl, fun h => absurd (eE.symm.trans h) hc1⟩, hW.sub (List.nil_sublist _)⟩
 ·intro hc1
  replace hc1 := of_decide_eq_false hc1
  obtain ⟨hs, hq2, -⟩ := parts_ok hc1
  obtain ⟨hll, hsb⟩ := subsE_all.1 hq2
  have hsE : sealE s l = 0 := by rw [sealE_l (by rw [chk_yes hs]; decide), hq2]
  refine l_end (n_then ?_)
  refine c_false rfl ?_
  refine c_skip (n_then (c_seq (c_seq (c_reg ?_))))
  refine aI ?_
  refine l_val (r_lss rfl rfl rfl rfl) rfl rfl ?_
  refine l_split ?_ ?_
  ·intro hc2
   replace hc2 := of_decide_eq_true hc2
   refine aB ?_
   refine lN ?_
   refine lN ?_
   refine lN ?_
   refine lN ?_
   refine kB ?_
   refine l_end (n_then ?_)
   refine c_true rfl ?_
   refine c_seq (c_reg ?_)
   refine l_val (r_build (ps := []) (bld51_) rfl rfl) rfl rfl ?_
   refine sA hW 0 tyA51 ?_
   intro W hW
   refine bI ?_
   refine l_end (n_then (c_ret (r_then ?_)))
   refine ret_cell_tmp hW 0 tyA51 rfl rfl rfl (by first | exact hdC_len _ _ | rfl | (simp; done)) rfl ?_
   have eE : hybE s l f = 2 := hybE_f hc1 (by omega)
   exact ⟨_, [], rfl, ⟨Sl.no, (0#64, 0#64), by rw [eE]; rfl, fun _ => rfl, fun h => absurd (eE.symm.trans h) (by decide)⟩, hW.sub (List.nil_sublist _)⟩
  ·intro hc2
   replace hc2 := of_decide_eq_false hc2
   refine aB ?_
   refine gI ?_
   refine l_valG (r_move (v := .slice _ _ _) rfl rfl) (by kernel_rfl) rfl ?_
   refine l_valG (r_lenSlice Tryz.underlying33 rfl rfl) (by kernel_rfl) rfl ?_
   refine l_valG (r_gtr rfl rfl rfl rfl) (by kernel_rfl) rfl ?_
   refine l_split ?_ ?_
   ·intro hc3
    replace hc3 := of_decide_eq_true hc3
    refine kB ?_
    refine l_end (n_then ?_)
    refine c_true rfl ?_
    refine c_seq (c_reg ?_)
    refine l_val (r_build (ps := []) (bld51_) rfl rfl) rfl rfl ?_
    refine sA hW 0 tyA51 ?_
    intro W hW
    refine bI ?_
    refine l_end (n_then (c_ret (r_then ?_)))
    refine ret_cell_tmp hW 0 tyA51 rfl rfl rfl (by first | exact hdC_len _ _ | rfl | (simp; done)) rfl ?_
    have eE : hybE s l f = 2 := hybE_f hc1 (by omega)
    exact ⟨_, [], rfl, ⟨Sl.no, (0#64, 0#64), by rw [eE]; rfl, fun _ => rfl, fun h => absurd (eE.symm.trans h) (by decide)⟩, hW.sub (List.nil_sublist _)⟩
   ·intro hc3
    replace hc3 := of_decide_eq_false hc3
    refine kB ?_
    refine l_end (n_then ?_)
    refine c_false rfl ?_
    refine c_skip (n_then (c_seq (c_reg ?_)))
    refine dA hW 3 tyA29 ?_
    refine dA hW 2 tyA26 ?_
    refine aS ?_
    refine dA hW 1 tyA29 ?_
    refine l_callX hW (g_Seal root s ra rn rc l se hq) en20 (hP.past hW.below) rfl rfl rfl rfl ?_
    rintro _ BS W ⟨hh, ck, rfl, -, hok⟩ hW
    obtain ⟨rfl, hhn, hO0⟩ := hok hsE
    rw [hsE]
    refine l_val (r_move (v := .tuple _) rfl rfl) rfl rfl ?_
    refine l_val (r_extract (v := .agg _) rfl rfl rfl) rfl rfl ?_
    refine l_val (r_extract (v := .int _ _) rfl rfl rfl) rfl rfl ?_
    refine l_alloc hW tyZ51 rfl rfl rfl ?_
    intro g5 W hW
    refine l_storeA hW 0 tyA51 rfl rfl rfl rfl rfl rfl rfl (hdC_len _ _) (hdC_one _ _) ?_
    intro W hW
    refine bI ?_
    refine l_end (n_then (c_seq (c_seq (c_reg ?_))))
    refine aI ?_
    refine l_val (r_neq (b := false) rfl rfl rfl (by decide)) rfl rfl ?_
    refine l_end (n_then ?_)
    refine c_false rfl ?_
    refine c_skip (n_then (c_seq (c_seq (c_reg ?_))))
    refine aI ?_
    refine aI ?_
    refine l_end (n_then (c_block ?_))
    refine c_loop (fun (z : Nat × List Blk) (j : Nat → Value) => [keyV root, .agg [.int .u8 s.k, .int .i64 s.d, .int .i64 s.g, .int .u64 s.p, .int .u64 s.q, .int .u64 s.r].toArray, .slice ra rn rc, .int .i64 f, keyV se, .pointer (some ⟨g1, 0, none⟩), .pointer (some ⟨g2, 0, none⟩), j 7, j 8, .pointer (some ⟨g3, 0, none⟩), .pointer (some ⟨g4, 0, none⟩), j 11, .int .i64 (partsE s l), .pointer (some ⟨g5, 0, none⟩), .int .i64 0, j 15, j 16, j 17, .agg ([.int .u8 s.k, .int .i64 s.d, .int .i64 s.g, .int .u64 s.p, .int .u64 s.q, .int .u64 s.r]).toArray, .slice ra rn rc, .int .i64 (partsE s l), .int .i64 (partsE s l), .bool false, j 23, j 24, .int .i64 f, .bool false, .bool false, .int .i64 f, .slice ra rn rc, .int .i64 (rn : Int), .bool false, .bool false, j 33, .tuple #[.agg (hdC hh (derive se 53 0)).toArray, .int .i64 0], .agg (kc root).toArray, .agg ([.int .u8 s.k, .int .i64 s.d, .int .i64 s.g, .int .u64 s.p, .int .u64 s.q, .int .u64 s.r]).toArray, .slice ra rn rc, .agg (kc se).toArray, .tuple #[.agg (hdC hh (derive se 53 0)).toArray, .int .i64 0], .agg (hdC hh (derive se 53 0)).toArray, .int .i64 0, .int .i64 0, .bool false, j 44, j 45, .int .i64 f, .int .i64 (z.1 : Int), j 48, j 49, j 50, j 51, j 52, j 53, j 54, j 55, j 56, j 57, j 58, j 59, j 60, j 61, j 62, j 63, j 64, j 65, j 66, j 67, j 68, j 69, j 70, j 71, j 72, j 73, j 74, j 75, j 76]) (fun (z : Nat × List Blk) => [⟨g5, (hdC hh (derive se 53 0)), 51⟩, ⟨g4, z51, 51⟩, ⟨g3, kc se, 29⟩, ⟨g2, [.int .u8 s.k, .int .i64 s.d, .int .i64 s.g, .int .u64 s.p, .int .u64 s.q, .int .u64 s.r], 26⟩, ⟨g1, kc root, 29⟩] ++ z.2) (fun (z : Nat × List Blk) => (z.1 : Int) ≤ f ∧ OwnSl 100 18 hh.a hh.n hh.c (itL (hybL root se s l z.1)) z.2) (fun (z : Nat × List Blk) => f.toNat - z.1) (0, BS) (by kernel_rfl) hW ⟨by simp only; omega, by simp only; rw [hybL_zero]; exact hO0⟩ ?_
    intro z j W hx hW
    obtain ⟨hz, hO⟩ := hx
    refine c_seq (c_reg ?_)
    refine l_val (r_lss rfl rfl rfl rfl) rfl rfl ?_
    refine l_split ?_ ?_
    ·intro hc4
     replace hc4 := of_decide_eq_true hc4
     obtain ⟨b0, o0, ha, hc⟩ := hP.ptr (by omega)
     obtain ⟨gi, cur, hag, hbl, hnc, hcl, htk⟩ := hO.row (by omega)
     have hO2 := hO
     rw [hag, hbl] at hO2
     rw [hbl] at hW
     refine l_end (n_then (c_seq ?_))
     refine c_true rfl ?_
     refine c_skip (n_then (c_seq (c_block (c_seq (c_reg ?_)))))
     refine aI ?_
     refine bI ?_
     refine l_end (n_then (c_seq ?_))
     refine c_regM hW [] [.q, .q, .q, .q, .q, .q, .q, .q, .q, .q, .mk 0, .st 0, .q] [⟨16, allocX 29 16⟩] [z29] [10] [0, 0, 0, 0, 12, 28, 63, 127, 255, 255, 0, 1535, 4095] (by kernel_rfl) (by kernel_rfl) rfl (by kernel_rfl) ?_
     refine y_loadA 4 tyA29 rfl rfl rfl rfl rfl (by first | rfl | exact kc_len _ | exact kcf_len _ | exact boC_len _ _ | (simp; done)) (by decide) ?_
     refine y_loadA 3 tyA26 rfl rfl rfl rfl rfl (by first | rfl | exact kc_len _ | exact kcf_len _ | exact boC_len _ _ | (simp; done)) (by decide) ?_
     refine yS ?_
     refine yI ?_
     refine y_val (r_indexAddrSlB (n := z.1) Tryz.underlying33 tyA64.size rfl (congrArg (fun a => Value.slice a rn rc) ha) rfl (by omega)) rfl rfl ?_
     refine y_loadF2 tyA64 (hc z.1 (by omega)).1 (hc z.1 (by omega)).2 (by kernel_rfl) rfl rfl rfl ?_
     refine y_call (g_SubsetKeyZ s root (qn l z.1) (qm l z.1) hs (hsb z.1 (by omega))) en48 rfl rfl rfl rfl ?_
     refine y_val (r_move (v := .tuple _) rfl rfl) rfl rfl ?_
     refine y_val (r_extract (v := .agg _) rfl rfl rfl) rfl rfl ?_
     refine y_val (r_extract (v := .int _ _) rfl rfl rfl) rfl rfl ?_
     refine y_alloc 0 tyZ29 rfl rfl rfl rfl ?_
     refine y_stA 0 tyA29 rfl rfl rfl rfl (by first | rfl | exact kc_len _ | exact kcf_len _ | exact boC_len _ _ | (simp; done)) (by first | exact kc_one _ | exact kcf_one _ | exact boC_one _ _ | (simp [Value.oneCell']; done)) ?_
     refine y_val (r_assign (v := .int _ _) rfl rfl) rfl rfl ?_
     refine y_end ?_
     refine y_made ?_
     rintro _ _ ⟨g6, rfl, rfl, -⟩
     intro W hW
     refine n_then (c_seq (c_seq (c_reg ?_)))
     refine aI ?_
     refine l_val (r_neq (b := false) rfl rfl rfl (by decide)) rfl rfl ?_
     refine l_end (n_then ?_)
     refine c_false rfl ?_
     refine c_skip (n_then ?_)
     refine c_regM hW [] [.q, .q, .q, .q, .q, .q, .q, .q, .q, .q, .q, .tail] [] [] [] [0, 1, 0, 0, 0, 0, 32, 112, 248, 511, 1023, 2047] (by kernel_rfl) (by kernel_rfl) rfl (by kernel_rfl) ?_
     refine y_val (r_fieldAddr 0 Tryz.underlying51 rfl tyC48.size rfl rfl rfl) rfl rfl ?_
     refine y_loadC 1 tyC48 rfl rfl rfl rfl rfl rfl (by decide) ?_
     refine yI ?_
     refine y_loadA 0 tyA29 rfl rfl rfl rfl rfl (by first | rfl | exact kc_len _ | exact kcf_len _ | exact boC_len _ _ | (simp; done)) (by decide) ?_
     refine y_loadA 3 tyA29 rfl rfl rfl rfl rfl (by first | rfl | exact kc_len _ | exact kcf_len _ | exact boC_len _ _ | (simp; done)) (by decide) ?_
     refine yI ?_
     refine y_val (r_conv_i64_u64 Tryz.underlying3 Tryz.underlying22 rfl rfl) rfl rfl ?_
     refine y_call (g_Derive se 80 (BitVec.ofNat 64 z.1)) en50 rfl rfl rfl rfl ?_
     refine y_call (g_Encrypt _ _) en69 rfl rfl rfl rfl ?_
     refine y_val (r_indexAddrSl (n := z.1) Tryz.underlying48 tyA100.size rfl (congrArg (fun a => Value.slice a hh.n hh.c) hag) rfl (by omega)) rfl rfl ?_
     refine y_val (r_fieldAddr _ Tryz.underlying100 rfl tyA29.size rfl rfl rfl) rfl rfl ?_
     refine y_tail ?_
     intro W hW
     refine l_storeP hW 6 tyA29 (g := gi) (i := 0 + z.1 * 18 + 2) (cs := cur) (vs := kc (enc (keyN root s (qn l z.1).toNat (qm l z.1).toNat) (derive se 80 (BitVec.ofNat 64 z.1)))) rfl rfl rfl rfl rfl rfl (by rw [hcl]; have := Nat.mul_le_mul_right 18 (show z.1 + 1 ≤ hh.c by omega); omega) (kc_len _) (kc_one _) ?_
     intro W hW
     rw [Nat.zero_add] at hW
     refine l_end (n_block (n_then (c_reg ?_)))
     refine l_val (r_addN (n := 1) rfl rfl rfl (by omega)) rfl rfl ?_
     refine aI ?_
     refine l_end (n_then ?_)
     have hit := OwnSl.item hO2 (i := z.1) (t := sealI root se s (qn l z.1, qm l z.1)) (by rw [hybL_get (by omega), if_neg (by omega)]) (enc (keyN root s (qn l z.1).toNat (qm l z.1).toNat) (derive se 80 (BitVec.ofNat 64 z.1)))
     exact loop_next (z.1 + 1, [⟨gi, cur.take (z.1 * 18 + 2) ++ kc (enc (keyN root s (qn l z.1).toNat (qm l z.1).toNat) (derive se 80 (BitVec.ofNat 64 z.1))) ++ cur.drop (z.1 * 18 + 2 + 16), 100⟩]) (by kernel_rfl) (hW.drop 1) ⟨by simp only; omega, by simp only; rw [← hybL_set (by omega), hag]; exact hit⟩ (by simp only; omega)
    ·intro hc4
     replace hc4 := of_decide_eq_false hc4
     refine l_end (n_then (c_seq ?_))
     refine c_false rfl ?_
     refine c_exit (x_then (x_then ?_))
     refine x_hit ?_
     refine n_then (c_seq (c_reg ?_))
     refine l_loadA hW 0 tyA51 rfl rfl rfl rfl rfl (hdC_len _ _) ?_
     refine l_storeA hW 1 tyA51 rfl rfl rfl rfl rfl rfl rfl (hdC_len _ _) (hdC_one _ _) ?_
     intro W hW
     refine bI ?_
     refine l_end (n_then (c_ret ?_))
     refine ret_cell_tmp hW 1 tyA51 rfl rfl rfl (by first | exact hdC_len _ _ | rfl | (simp; done)) rfl ?_
     have eE : hybE s l f = 0 := hybE_0 hc1 (by omega)
     have ez : z.1 = f.toNat := by omega
     rw [ez] at hO
     exact ⟨_, z.2, rfl, ⟨hh, derive se 53 0, by rw [eE]; rfl, fun h => absurd eE h, fun _ => ⟨rfl, hhn, hO⟩⟩, (show Cl _ ([_, _, _, _, _] ++ z.2) _ from hW).sub (List.sublist_append_right _ _)⟩

end Go.Proofs.YtoegpalacppllaaGreat

/- The law: the fakes of a header. -/
namespace Go.Proofs.YtoegpalacppllaaGreat
open Go.RowKit Pl
open Tr Hn
theorem hyb_ok {s : Sc} {l : List (Int × Int)} {f : Int} (h : hybE s l f = 0) : schB s = true ∧ subsE s l = 0 ∧ ¬ (f < 0 ∨ (l.length : Int) < f) := by
 by_cases hp : partsE s l ≠ 0
 ·rw [hybE_p hp] at h; exact absurd h hp
 ·by_cases hf : f < 0 ∨ (l.length : Int) < f
  ·rw [hybE_f hp hf] at h; exact absurd h (by decide)
  ·obtain ⟨h1, h2, -⟩ := parts_ok hp
   exact ⟨h1, h2, hf⟩
theorem it1_key {t : It} {j : Nat} {v : Value} (h : (kc t.k)[j]? = some v) : (it1 t)[2 + j]? = some v := by
 rw [it1_eq, List.getElem?_append_right (by simp)]
 simpa using h
theorem sealL_get {root se : Kw} {s : Sc} {l : List (Int × Int)} {i : Nat} (hi : i < l.length) : (sealL root se s l)[i]? = some (sealI root se s (qn l i, qm l i)) := by
 have e : (qn l i, qm l i) = l[i] := by simp [qn, qm, List.getD_eq_getElem?_getD, hi]
 rw [sealL, List.getElem?_map, List.getElem?_eq_getElem hi, e]; rfl
set_option maxRecDepth 10000 in
set_option maxHeartbeats 2000000 in
/-- headend/headendlaw08.TraceHybrids -/
theorem g_TraceHybrids (root : Kw) (s : Sc) (ra : Option Addr) (rn rc : Nat) (l : List (Int × Int)) (f : Int) (se : Kw) : GivesR Tryz.prog 15 [keyV root, .agg [.int .u8 s.k, .int .i64 s.d, .int .i64 s.g, .int .u64 s.p, .int .u64 s.q, .int .u64 s.r].toArray, .slice ra rn rc, .int .i64 f, keyV se].toArray (fun w => RdB w ⟨ra, rn, rc⟩ l) (.bool true) := by
 refine givesR_of Tryz.func15 rfl (bs := [keyV root, .agg [.int .u8 s.k, .int .i64 s.d, .int .i64 s.g, .int .u64 s.p, .int .u64 s.q, .int .u64 s.r].toArray, .slice ra rn rc, .int .i64 f, keyV se, undef, undef, undef, undef, undef, undef, undef, undef, undef, undef, undef, undef, undef, undef, undef, undef, undef, undef, undef, undef, undef, undef, undef, undef, undef, undef, undef, undef, undef, undef, undef, undef, undef, undef, undef, undef, undef, undef, undef, undef, undef, undef, undef, undef, undef, undef, undef, undef, undef, undef, undef, undef, undef, undef, undef, undef, undef, undef, undef, undef, undef, undef, undef, undef, undef, undef, undef, undef, undef, undef, undef, undef, undef, undef, undef, undef, undef, undef, undef, undef, undef, undef, undef, undef, undef, undef, undef, undef, undef, undef, undef, undef, undef, undef, undef, undef, undef, undef, undef, undef, undef, undef, undef, undef, undef, undef, undef, undef, undef, undef, undef, undef, undef, undef, undef, undef, undef, undef, undef, undef, undef, undef, undef, undef, undef, undef, undef, undef, undef, undef, undef, undef, undef, undef, undef, undef, undef, undef, undef, undef, undef, undef, undef, undef]) rfl ?_
 intro w hP hW
 have hn : rn = l.length := hP.len
 refine c_seq (c_reg ?_)
 refine xB hW ?_
 intro g1 W hW
 refine xB hW ?_
 intro g2 W hW
 refine xB hW ?_
 intro g3 W hW
 refine bB ?_
 refine l_end (n_then (c_seq (c_reg ?_)))
 refine l_callR hW (Pre := fun _ => True) (fun w _ => g_alive w) en31 trivial rfl rfl rfl rfl ?_
 intro W hW
 refine bB ?_
 refine l_end (n_then (c_seq (c_seq (c_reg ?_))))
 refine aS ?_
 refine l_val (r_lenSlice Tryz.underlying33 rfl rfl) rfl rfl ?_
 refine l_val (r_gtrN (n := 64) rfl rfl rfl rfl) rfl rfl ?_
 refine l_split ?_ ?_
 ·intro hc1
  replace hc1 := of_decide_eq_true hc1
  refine aB ?_
  refine lN ?_
  refine lN ?_
  refine kB ?_
  refine l_end (n_then ?_)
  refine c_true rfl ?_
  refine c_seq (c_reg ?_)
  refine aB ?_
  refine bB ?_
  refine l_end (n_then (c_ret (r_then ?_)))
  refine ret_tmp (v := .bool true) rfl ?_ ⟨rfl, hW.below⟩
  rfl
 ·intro hc1
  replace hc1 := of_decide_eq_false hc1
  have hq : l.length ≤ 100 := by omega
  refine aB ?_
  refine l_valG (r_move (v := .bool _) rfl rfl) (by kernel_rfl) rfl ?_
  refine l_valG (r_not rfl rfl) (by kernel_rfl) rfl ?_
  refine kB ?_
  refine l_end (n_then ?_)
  refine c_false rfl ?_
  refine c_skip (n_then (c_seq (c_reg ?_)))
  refine dA hW 2 tyA29 ?_
  refine dA hW 1 tyA26 ?_
  refine aS ?_
  refine aI ?_
  refine dA hW 0 tyA29 ?_
  refine l_callX hW (g_Hybrid root s ra rn rc l f se hq) en47 (hP.past hW.below) rfl rfl rfl rfl ?_
  rintro _ BH W ⟨h1, ck1, rfl, hb1, ho1⟩ hW
  refine l_val (r_move (v := .tuple _) rfl rfl) rfl rfl ?_
  refine l_val (r_extract (v := .agg _) rfl rfl rfl) rfl rfl ?_
  refine l_val (r_extract (v := .int _ _) rfl rfl rfl) rfl rfl ?_
  refine l_alloc hW tyZ51 rfl rfl rfl ?_
  intro g4 W hW
  refine l_storeA hW 0 tyA51 rfl rfl rfl rfl rfl rfl rfl (hdC_len _ _) (hdC_one _ _) ?_
  intro W hW
  refine bI ?_
  refine l_end (n_then (c_seq (c_reg ?_)))
  refine dA hW 3 tyA29 ?_
  refine dA hW 2 tyA26 ?_
  refine aS ?_
  refine dA hW 1 tyA29 ?_
  refine l_callX hW (g_Seal root s ra rn rc l se hq) en20 (hP.past hW.below) rfl rfl rfl rfl ?_
  rintro _ BS W ⟨h2, ck2, rfl, hb2, ho2⟩ hW
  refine l_val (r_move (v := .tuple _) rfl rfl) rfl rfl ?_
  refine l_val (r_extract (v := .agg _) rfl rfl rfl) rfl rfl ?_
  refine l_val (r_extract (v := .int _ _) rfl rfl rfl) rfl rfl ?_
  refine l_alloc hW tyZ51 rfl rfl rfl ?_
  intro g5 W hW
  refine l_storeA hW 0 tyA51 rfl rfl rfl rfl rfl rfl rfl (hdC_len _ _) (hdC_one _ _) ?_
  intro W hW
  refine bI ?_
  refine l_end (n_then (c_seq (c_seq (c_reg ?_))))
  refine aI ?_
  refine l_val (r_neq rfl rfl rfl rfl) rfl rfl ?_
  refine l_split ?_ ?_
  ·intro hc2
   replace hc2 := of_decide_eq_true hc2
   have hz1 := hb1 hc2
   refine l_end (n_then ?_)
   refine c_true rfl ?_
   refine c_seq (c_reg ?_)
   refine aB ?_
   refine aB ?_
   refine l_valG (r_fieldAddr 0 Tryz.underlying51 rfl tyC48.size rfl rfl rfl) (by kernel_rfl) rfl ?_
   refine dG hW 1 tyC48 ?_
   refine l_valG (r_lenSlice Tryz.underlying48 rfl rfl) (by kernel_rfl) rfl ?_
   refine l_valG (r_eqlN (b := true) (n := 0) rfl rfl rfl (decide_eq_true (by omega))) (by kernel_rfl) rfl ?_
   refine kB ?_
   refine bB ?_
   refine l_end (n_then (c_ret (r_then ?_)))
   refine ret_tmp (v := .bool true) rfl ?_ ⟨rfl, hW.below⟩
   rfl
  ·intro hc2
   replace hc2 := of_decide_eq_false hc2
   have hE0 : hybE s l f = 0 := by omega
   obtain ⟨hk1, hn1, hO1⟩ := ho1 hE0
   obtain ⟨hs, hq2, hf⟩ := hyb_ok hE0
   obtain ⟨hll, hsb⟩ := subsE_all.1 hq2
   have hsE : sealE s l = 0 := by rw [sealE_l (by rw [chk_yes hs]; decide), hq2]
   obtain ⟨hk2, hn2, hO2⟩ := ho2 hsE
   refine l_end (n_then ?_)
   refine c_false rfl ?_
   refine c_skip (n_then (c_seq (c_seq (c_reg ?_))))
   refine aI ?_
   refine l_val (r_neq rfl rfl rfl rfl) rfl rfl ?_
   refine l_split ?_ ?_
   ·intro hc3
    replace hc3 := of_decide_eq_true hc3
    omega
   ·intro hc3
    replace hc3 := of_decide_eq_false hc3
    refine aB ?_
    refine l_valG (r_fieldAddr 0 Tryz.underlying51 rfl tyC48.size rfl rfl rfl) (by kernel_rfl) rfl ?_
    refine dG hW 1 tyC48 ?_
    refine l_valG (r_lenSlice Tryz.underlying48 rfl rfl) (by kernel_rfl) rfl ?_
    refine l_valG (r_fieldAddr 0 Tryz.underlying51 rfl tyC48.size rfl rfl rfl) (by kernel_rfl) rfl ?_
    refine dG hW 0 tyC48 ?_
    refine l_valG (r_lenSlice Tryz.underlying48 rfl rfl) (by kernel_rfl) rfl ?_
    refine l_valG (r_neqN rfl rfl rfl rfl) (by kernel_rfl) rfl ?_
    refine l_split ?_ ?_
    ·intro hc4
     replace hc4 := of_decide_eq_true hc4
     omega
    ·intro hc4
     replace hc4 := of_decide_eq_false hc4
     refine kB ?_
     refine aB ?_
     refine l_valG (r_fieldAddr 19 Tryz.underlying51 rfl tyA29.size rfl rfl rfl) (by kernel_rfl) rfl ?_
     refine l_loadPG hW 1 tyA29 (by kernel_rfl) rfl rfl rfl rfl (by rw [hdC_len]; decide) (hdC_key _ _) ?_
     refine l_valG (r_fieldAddr 19 Tryz.underlying51 rfl tyA29.size rfl rfl rfl) (by kernel_rfl) rfl ?_
     refine l_loadPG hW 0 tyA29 (by kernel_rfl) rfl rfl rfl rfl (by rw [hdC_len]; decide) (hdC_key _ _) ?_
     refine l_valG (r_neqK tyK29 _ _ (c := false) rfl rfl rfl (by rw [hk1, hk2]; simp)) (by kernel_rfl) rfl ?_
     refine kB ?_
     refine aB ?_
     refine gI ?_
     refine l_valG (r_move (v := .slice _ _ _) rfl rfl) (by kernel_rfl) rfl ?_
     refine l_valG (r_lenSlice Tryz.underlying33 rfl rfl) (by kernel_rfl) rfl ?_
     refine l_valG (r_gtr rfl rfl rfl rfl) (by kernel_rfl) rfl ?_
     refine l_split ?_ ?_
     ·intro hc5
      replace hc5 := of_decide_eq_true hc5
      omega
     ·intro hc5
      replace hc5 := of_decide_eq_false hc5
      refine kB ?_
      refine l_end (n_then ?_)
      refine c_false rfl ?_
      refine c_skip (n_then (c_seq (c_seq (c_reg ?_))))
      refine l_val (r_fieldAddr 0 Tryz.underlying51 rfl tyC48.size rfl rfl rfl) rfl rfl ?_
      refine dC hW 1 tyC48 ?_
      refine l_val (r_lenSlice Tryz.underlying48 rfl rfl) rfl rfl ?_
      refine aI ?_
      refine l_end (n_then (c_block ?_))
      refine c_loop (fun (i : Nat) (j : Nat → Value) => [keyV root, .agg [.int .u8 s.k, .int .i64 s.d, .int .i64 s.g, .int .u64 s.p, .int .u64 s.q, .int .u64 s.r].toArray, .slice ra rn rc, .int .i64 f, keyV se, .pointer (some ⟨g1, 0, none⟩), .pointer (some ⟨g2, 0, none⟩), j 7, j 8, .pointer (some ⟨g3, 0, none⟩), j 10, .bool true, .pointer (some ⟨g4, 0, none⟩), .int .i64 (hybE s l f), .pointer (some ⟨g5, 0, none⟩), .int .i64 (sealE s l), j 16, j 17, j 18, .bool true, .slice ra rn rc, .int .i64 (rn : Int), .bool false, .bool false, .bool true, .bool false, .bool false, j 27, .tuple #[.agg (hdC h1 ck1).toArray, .int .i64 (hybE s l f)], .agg (kc root).toArray, .agg ([.int .u8 s.k, .int .i64 s.d, .int .i64 s.g, .int .u64 s.p, .int .u64 s.q, .int .u64 s.r]).toArray, .slice ra rn rc, .int .i64 f, .agg (kc se).toArray, .tuple #[.agg (hdC h1 ck1).toArray, .int .i64 (hybE s l f)], .agg (hdC h1 ck1).toArray, .int .i64 (hybE s l f), .tuple #[.agg (hdC h2 ck2).toArray, .int .i64 (sealE s l)], .agg (kc root).toArray, .agg ([.int .u8 s.k, .int .i64 s.d, .int .i64 s.g, .int .u64 s.p, .int .u64 s.q, .int .u64 s.r]).toArray, .slice ra rn rc, .agg (kc se).toArray, .tuple #[.agg (hdC h2 ck2).toArray, .int .i64 (sealE s l)], .agg (hdC h2 ck2).toArray, .int .i64 (sealE s l), .int .i64 (hybE s l f), .bool false, j 47, j 48, j 49, j 50, j 51, j 52, j 53, .int .i64 (sealE s l), .bool false, .bool false, .pointer (some ⟨g4, 0, none⟩), .slice h1.a h1.n h1.c, .int .i64 (h1.n : Int), .pointer (some ⟨g5, 0, none⟩), .slice h2.a h2.n h2.c, .int .i64 (h2.n : Int), .bool false, .bool false, .bool false, .pointer (some ⟨g4, 19, none⟩), keyV ck1, .pointer (some ⟨g5, 19, none⟩), keyV ck2, .bool false, .bool false, .bool false, .int .i64 f, .slice ra rn rc, .int .i64 (rn : Int), .bool false, .bool false, .pointer (some ⟨g4, 0, none⟩), .slice h1.a h1.n h1.c, .int .i64 (h1.n : Int), .int .i64 (i : Int), j 82, j 83, j 84, j 85, j 86, j 87, j 88, j 89, j 90, j 91, j 92, j 93, j 94, j 95, j 96, j 97, j 98, j 99, j 100, j 101, j 102, j 103, j 104, j 105, j 106, j 107, j 108, j 109, j 110, j 111, j 112, j 113, j 114, j 115, j 116, j 117, j 118, j 119, j 120, j 121, j 122, j 123, j 124, j 125, j 126, j 127, j 128, j 129, j 130, j 131, j 132, j 133, j 134, j 135, j 136, j 137, j 138, j 139, j 140, j 141, j 142, j 143, j 144, j 145, j 146, j 147, j 148]) (fun (i : Nat) => [⟨g5, (hdC h2 ck2), 51⟩, ⟨g4, (hdC h1 ck1), 51⟩, ⟨g3, kc se, 29⟩, ⟨g2, [.int .u8 s.k, .int .i64 s.d, .int .i64 s.g, .int .u64 s.p, .int .u64 s.q, .int .u64 s.r], 26⟩, ⟨g1, kc root, 29⟩] ++ BH ++ BS) (fun (i : Nat) => i ≤ h1.n) (fun (i : Nat) => h1.n - i) 0 (by kernel_rfl) hW (Nat.zero_le _) ?_
      intro i j W hx hW
      refine c_seq (c_reg ?_)
      refine l_val (r_lssN rfl rfl rfl rfl) rfl rfl ?_
      refine l_split ?_ ?_
      ·intro hc6
       replace hc6 := of_decide_eq_true hc6
       obtain ⟨b0, o0, ha, hc⟩ := hP.ptr (by omega)
       obtain ⟨t1, ht1⟩ : ∃ t, t = (if i < f.toNat then fakeI root se s i (qn l i, qm l i) else sealI root se s (qn l i, qm l i)) := ⟨_, rfl⟩
       have hg1 : (hybL root se s l f.toNat)[i]? = some t1 := by rw [hybL_get (by omega), ht1]
       have hiv1 : t1.v = qn l i := by rw [ht1]; split <;> rfl
       have hix1 : t1.x = qm l i := by rw [ht1]; split <;> rfl
       obtain ⟨gi1, hag1, hrep1⟩ := hO1.itAt hg1
       obtain ⟨gi2, hag2, hrep2⟩ := hO2.itAt (sealL_get (root := root) (se := se) (s := s) (show i < l.length by omega))
       have hiv2 : (sealI root se s (qn l i, qm l i)).v = qn l i := rfl
       have hix2 : (sealI root se s (qn l i, qm l i)).x = qm l i := rfl
       refine l_end (n_then (c_seq ?_))
       refine c_true rfl ?_
       refine c_skip (n_then (c_seq (c_block (c_seq (c_reg ?_)))))
       refine aI ?_
       refine bI ?_
       refine l_end (n_then (c_seq (c_seq ?_)))
       refine c_regY hW [] [.q, .q, .q, .q, .q, .q, .q, .q, .q, .q, .q, .q, .q, .q, .q, .q, .q, .q, .q, .q, .q, .q, .q, .q, .q, .q, .q, .q, .q, .q, .q] [0, 1, 0, 7, 15, 31, 0, 64, 0, 448, 960, 1984, 4095, 8191, 16383, 16383, 65535, 131071, 262143, 524287, 262143, 2097151, 4194303, 262143, 8650751, 262143, 58982399, 126091263, 268435455, 536870911, 1073741823] (by kernel_rfl) (by kernel_rfl) ?_
       refine y_val (r_fieldAddr 0 Tryz.underlying51 rfl tyC48.size rfl rfl rfl) rfl rfl ?_
       refine y_loadC 1 tyC48 rfl rfl rfl rfl rfl rfl (by decide) ?_
       refine yI ?_
       refine y_val (r_indexAddrSl (n := i) Tryz.underlying48 tyA100.size rfl (congrArg (fun a => Value.slice a h1.n h1.c) hag1) rfl (by omega)) rfl rfl ?_
       refine y_val (r_fieldAddr (0 + i * 18 + 0) Tryz.underlying100 rfl tyA64.size rfl rfl rfl) rfl rfl ?_
       refine y_loadR2 tyA64 (u0 := .int .i64 (qn l i)) (u1 := .int .i64 (qm l i)) (fun L2 w hs hC => by
        have h := hrep1.at hC ((((List.sublist_append_right _ BH).trans (List.sublist_append_left _ BS))).trans hs.pre)
        exact ⟨by rw [show 0 + i * 18 + 0 + 0 = i * 18 + 0 by omega]; exact h 0 _ (hiv1 ▸ rfl), by rw [show 0 + i * 18 + 0 + 1 = i * 18 + 1 by omega]; exact h 1 _ (hix1 ▸ rfl)⟩) rfl rfl rfl rfl ?_
       refine y_val (r_fieldAddr 0 Tryz.underlying51 rfl tyC48.size rfl rfl rfl) rfl rfl ?_
       refine y_loadC 0 tyC48 rfl rfl rfl rfl rfl rfl (by decide) ?_
       refine yI ?_
       refine y_val (r_indexAddrSl (n := i) Tryz.underlying48 tyA100.size rfl (congrArg (fun a => Value.slice a h2.n h2.c) hag2) rfl (by omega)) rfl rfl ?_
       refine y_val (r_fieldAddr (0 + i * 18 + 0) Tryz.underlying100 rfl tyA64.size rfl rfl rfl) rfl rfl ?_
       refine y_loadR2 tyA64 (u0 := .int .i64 (qn l i)) (u1 := .int .i64 (qm l i)) (fun L2 w hs hC => by
        have h := hrep2.at hC (((List.sublist_append_right _ BS)).trans hs.pre)
        exact ⟨by rw [show 0 + i * 18 + 0 + 0 = i * 18 + 0 by omega]; exact h 0 _ (hiv2 ▸ rfl), by rw [show 0 + i * 18 + 0 + 1 = i * 18 + 1 by omega]; exact h 1 _ (hix2 ▸ rfl)⟩) rfl rfl rfl rfl ?_
       refine y_val (r_neqS gd64 (eqS64 _ _ _ _) (c := false) rfl rfl rfl (decide_eq_false (by simp))) rfl rfl ?_
       refine yB ?_
       refine y_val (r_move (v := .int _ _) rfl rfl) (by kernel_rfl) rfl ?_
       refine y_val (r_move (v := .int _ _) rfl rfl) (by kernel_rfl) rfl ?_
       refine y_val (r_geq rfl rfl rfl rfl) (by kernel_rfl) rfl ?_
       refine y_split ?_ ?_
       ·intro hc7
        replace hc7 := of_decide_eq_true hc7
        have hseal : t1 = sealI root se s (qn l i, qm l i) := by rw [ht1, if_neg (by omega)]
        refine y_val (r_move (v := .bool _) rfl rfl) (by kernel_rfl) rfl ?_
        refine y_val (r_fieldAddr 0 Tryz.underlying51 rfl tyC48.size rfl rfl rfl) (by kernel_rfl) rfl ?_
        refine y_loadC 1 tyC48 (by kernel_rfl) rfl rfl rfl rfl rfl (by decide) ?_
        refine y_val (r_move (v := .int _ _) rfl rfl) (by kernel_rfl) rfl ?_
        refine y_val (r_indexAddrSl (n := i) Tryz.underlying48 tyA100.size rfl (congrArg (fun a => Value.slice a h1.n h1.c) hag1) rfl (by omega)) (by kernel_rfl) rfl ?_
        refine y_loadRA tyA100 (vs := [.int .i64 (qn l i), .int .i64 (qm l i)] ++ kc (enc (keyN root s (qn l i).toNat (qm l i).toNat) se)) (fun L2 w hs hC j v hv => by
         have h := hrep1.at hC ((((List.sublist_append_right _ BH).trans (List.sublist_append_left _ BS))).trans hs.pre)
         rw [Nat.zero_add]
         exact h j v (hseal ▸ hv)) (by rw [List.length_append, kc_len]; rfl) (by kernel_rfl) rfl rfl rfl ?_
        refine y_val (r_fieldAddr 0 Tryz.underlying51 rfl tyC48.size rfl rfl rfl) (by kernel_rfl) rfl ?_
        refine y_loadC 0 tyC48 (by kernel_rfl) rfl rfl rfl rfl rfl (by decide) ?_
        refine y_val (r_move (v := .int _ _) rfl rfl) (by kernel_rfl) rfl ?_
        refine y_val (r_indexAddrSl (n := i) Tryz.underlying48 tyA100.size rfl (congrArg (fun a => Value.slice a h2.n h2.c) hag2) rfl (by omega)) (by kernel_rfl) rfl ?_
        refine y_loadRA tyA100 (vs := [.int .i64 (qn l i), .int .i64 (qm l i)] ++ kc (enc (keyN root s (qn l i).toNat (qm l i).toNat) se)) (fun L2 w hs hC j v hv => by
         have h := hrep2.at hC (((List.sublist_append_right _ BS)).trans hs.pre)
         rw [Nat.zero_add]
         exact h j v (hv)) (by rw [List.length_append, kc_len]; rfl) (by kernel_rfl) rfl rfl rfl ?_
        refine y_val (r_neqS gd100 (eqS100 _ _ _ _ _ _) (c := false) rfl rfl rfl (decide_eq_false (by simp))) (by kernel_rfl) rfl ?_
        refine y_val (r_pick (v := .bool _) rfl rfl rfl) (by kernel_rfl) rfl ?_
        refine yK ?_
        refine y_end ?_
        intro W hW
        refine n_then ?_
        refine c_false rfl ?_
        refine c_skip (n_then (c_seq ?_))
        refine c_regM hW [] [.q, .q, .q, .q, .q, .q, .q, .q, .q, .q, .mk 0, .st 0, .q] [⟨17, allocX 29 16⟩] [z29] [10] [0, 0, 0, 0, 12, 28, 63, 127, 255, 255, 0, 1535, 4095] (by kernel_rfl) (by kernel_rfl) rfl (by kernel_rfl) ?_
        refine y_loadA 4 tyA29 rfl rfl rfl rfl rfl (by first | rfl | exact kc_len _ | exact kcf_len _ | exact boC_len _ _ | (simp; done)) (by decide) ?_
        refine y_loadA 3 tyA26 rfl rfl rfl rfl rfl (by first | rfl | exact kc_len _ | exact kcf_len _ | exact boC_len _ _ | (simp; done)) (by decide) ?_
        refine yS ?_
        refine yI ?_
        refine y_val (r_indexAddrSlB (n := i) Tryz.underlying33 tyA64.size rfl (congrArg (fun a => Value.slice a rn rc) ha) rfl (by omega)) rfl rfl ?_
        refine y_loadF2 tyA64 (hc i (by omega)).1 (hc i (by omega)).2 (by kernel_rfl) rfl rfl rfl ?_
        refine y_call (g_SubsetKeyZ s root (qn l i) (qm l i) hs (hsb i (by omega))) en48 rfl rfl rfl rfl ?_
        refine y_val (r_move (v := .tuple _) rfl rfl) rfl rfl ?_
        refine y_val (r_extract (v := .agg _) rfl rfl rfl) rfl rfl ?_
        refine y_val (r_extract (v := .int _ _) rfl rfl rfl) rfl rfl ?_
        refine y_alloc 0 tyZ29 rfl rfl rfl rfl ?_
        refine y_stA 0 tyA29 rfl rfl rfl rfl (by first | rfl | exact kc_len _ | exact kcf_len _ | exact boC_len _ _ | (simp; done)) (by first | exact kc_one _ | exact kcf_one _ | exact boC_one _ _ | (simp [Value.oneCell']; done)) ?_
        refine y_val (r_assign (v := .int _ _) rfl rfl) rfl rfl ?_
        refine y_end ?_
        refine y_made ?_
        rintro _ _ ⟨g6, rfl, rfl, -⟩
        intro W hW
        replace hW := (show Cl _ (([_, _, _, _, _, _] ++ BH) ++ BS) _ from hW)
        refine n_then (c_seq ?_)
        refine c_regY hW [] [.q, .q, .q, .q, .q, .q, .q, .q, .q, .q, .q, .q, .q, .q, .q, .q, .q, .q, .q, .q, .q, .q] [0, 1, 3, 7, 7, 31, 63, 127, 127, 383, 127, 1919, 3967, 8063, 16383, 127, 127, 65663, 262143, 524287, 1048575, 2097151] (by kernel_rfl) (by kernel_rfl) ?_
        refine yI ?_
        refine y_val (r_neq (b := false) rfl rfl rfl (by decide)) rfl rfl ?_
        refine yB ?_
        refine y_val (r_move (v := .int _ _) rfl rfl) (by kernel_rfl) rfl ?_
        refine y_val (r_move (v := .int _ _) rfl rfl) (by kernel_rfl) rfl ?_
        refine y_val (r_lss rfl rfl rfl rfl) (by kernel_rfl) rfl ?_
        refine y_split ?_ ?_
        ·intro hc8
         replace hc8 := of_decide_eq_true hc8
         omega
        ·intro hc8
         replace hc8 := of_decide_eq_false hc8
         refine y_val (r_move (v := .bool _) rfl rfl) (by kernel_rfl) rfl ?_
         refine yN ?_
         refine yN ?_
         refine yN ?_
         refine yN ?_
         refine yN ?_
         refine yN ?_
         refine yN ?_
         refine yN ?_
         refine yN ?_
         refine yN ?_
         refine yN ?_
         refine yN ?_
         refine yN ?_
         refine y_val (r_pick (v := .bool _) rfl rfl rfl) (by kernel_rfl) rfl ?_
         refine yK ?_
         refine y_end ?_
         intro W hW
         refine n_then ?_
         refine c_false rfl ?_
         refine c_skip (n_block (n_then (c_reg ?_)))
         refine l_val (r_addN (n := 1) rfl rfl rfl (by omega)) rfl rfl ?_
         refine aI ?_
         refine l_end (n_then ?_)
         exact loop_next (i + 1) (by kernel_rfl) (hW.drop 1) (by omega) (by omega)
       ·intro hc7
        replace hc7 := of_decide_eq_false hc7
        refine y_val (r_move (v := .bool _) rfl rfl) (by kernel_rfl) rfl ?_
        refine yN ?_
        refine yN ?_
        refine yN ?_
        refine yN ?_
        refine yN ?_
        refine yN ?_
        refine yN ?_
        refine yN ?_
        refine yN ?_
        refine yN ?_
        refine yN ?_
        refine y_val (r_pick (v := .bool _) rfl rfl rfl) (by kernel_rfl) rfl ?_
        refine yK ?_
        refine y_end ?_
        intro W hW
        refine n_then ?_
        refine c_false rfl ?_
        refine c_skip (n_then (c_seq ?_))
        refine c_regM hW [] [.q, .q, .q, .q, .q, .q, .q, .q, .q, .q, .mk 0, .st 0, .q] [⟨17, allocX 29 16⟩] [z29] [10] [0, 0, 0, 0, 12, 28, 63, 127, 255, 255, 0, 1535, 4095] (by kernel_rfl) (by kernel_rfl) rfl (by kernel_rfl) ?_
        refine y_loadA 4 tyA29 rfl rfl rfl rfl rfl (by first | rfl | exact kc_len _ | exact kcf_len _ | exact boC_len _ _ | (simp; done)) (by decide) ?_
        refine y_loadA 3 tyA26 rfl rfl rfl rfl rfl (by first | rfl | exact kc_len _ | exact kcf_len _ | exact boC_len _ _ | (simp; done)) (by decide) ?_
        refine yS ?_
        refine yI ?_
        refine y_val (r_indexAddrSlB (n := i) Tryz.underlying33 tyA64.size rfl (congrArg (fun a => Value.slice a rn rc) ha) rfl (by omega)) rfl rfl ?_
        refine y_loadF2 tyA64 (hc i (by omega)).1 (hc i (by omega)).2 (by kernel_rfl) rfl rfl rfl ?_
        refine y_call (g_SubsetKeyZ s root (qn l i) (qm l i) hs (hsb i (by omega))) en48 rfl rfl rfl rfl ?_
        refine y_val (r_move (v := .tuple _) rfl rfl) rfl rfl ?_
        refine y_val (r_extract (v := .agg _) rfl rfl rfl) rfl rfl ?_
        refine y_val (r_extract (v := .int _ _) rfl rfl rfl) rfl rfl ?_
        refine y_alloc 0 tyZ29 rfl rfl rfl rfl ?_
        refine y_stA 0 tyA29 rfl rfl rfl rfl (by first | rfl | exact kc_len _ | exact kcf_len _ | exact boC_len _ _ | (simp; done)) (by first | exact kc_one _ | exact kcf_one _ | exact boC_one _ _ | (simp [Value.oneCell']; done)) ?_
        refine y_val (r_assign (v := .int _ _) rfl rfl) rfl rfl ?_
        refine y_end ?_
        refine y_made ?_
        rintro _ _ ⟨g7, rfl, rfl, -⟩
        intro W hW
        replace hW := (show Cl _ (([_, _, _, _, _, _] ++ BH) ++ BS) _ from hW)
        refine n_then (c_seq ?_)
        refine c_regY hW [] [.q, .q, .q, .q, .q, .q, .q, .q, .q, .q, .q, .q, .q, .q, .q, .q, .q, .q, .q, .q, .q, .q] [0, 1, 3, 7, 7, 31, 63, 127, 127, 383, 127, 1919, 3967, 8063, 16383, 127, 127, 65663, 262143, 524287, 1048575, 2097151] (by kernel_rfl) (by kernel_rfl) ?_
        refine yI ?_
        refine y_val (r_neq (b := false) rfl rfl rfl (by decide)) rfl rfl ?_
        refine yB ?_
        refine y_val (r_move (v := .int _ _) rfl rfl) (by kernel_rfl) rfl ?_
        refine y_val (r_move (v := .int _ _) rfl rfl) (by kernel_rfl) rfl ?_
        refine y_val (r_lss rfl rfl rfl rfl) (by kernel_rfl) rfl ?_
        refine y_split ?_ ?_
        ·intro hc9
         replace hc9 := of_decide_eq_true hc9
         have hfk : t1.k = enc (keyN root s (qn l i).toNat (qm l i).toNat) (derive se 80 (BitVec.ofNat 64 i)) := by rw [ht1, if_pos (by omega)]; rfl
         refine y_val (r_move (v := .bool _) rfl rfl) (by kernel_rfl) rfl ?_
         refine y_loadA 0 tyA29 (by kernel_rfl) rfl rfl rfl rfl (by first | rfl | exact kc_len _ | exact kcf_len _ | exact boC_len _ _ | (simp; done)) (by decide) ?_
         refine y_val (r_fieldAddr 0 Tryz.underlying51 rfl tyC48.size rfl rfl rfl) (by kernel_rfl) rfl ?_
         refine y_loadC 2 tyC48 (by kernel_rfl) rfl rfl rfl rfl rfl (by decide) ?_
         refine y_val (r_move (v := .int _ _) rfl rfl) (by kernel_rfl) rfl ?_
         refine y_val (r_indexAddrSl (n := i) Tryz.underlying48 tyA100.size rfl (congrArg (fun a => Value.slice a h1.n h1.c) hag1) rfl (by omega)) (by kernel_rfl) rfl ?_
         refine y_val (r_fieldAddr (0 + i * 18 + 2) Tryz.underlying100 rfl tyA29.size rfl rfl rfl) (by kernel_rfl) rfl ?_
         refine y_loadRA tyA29 (vs := kc (enc (keyN root s (qn l i).toNat (qm l i).toNat) (derive se 80 (BitVec.ofNat 64 i)))) (fun L2 w hs hC j v hv => by
          have h := hrep1.at hC ((((List.sublist_append_right _ BH).trans (List.sublist_append_left _ BS))).trans hs.pre)
          rw [show 0 + i * 18 + 2 + j = i * 18 + (2 + j) by omega]
          exact h (2 + j) v (it1_key (hfk ▸ hv))) (kc_len _) (by kernel_rfl) rfl rfl rfl ?_
         refine y_call (g_Decrypt (keyN root s (qn l i).toNat (qm l i).toNat) (enc (keyN root s (qn l i).toNat (qm l i).toNat) (derive se 80 (BitVec.ofNat 64 i)))) en49 (by kernel_rfl) rfl rfl rfl ?_
         refine y_loadA 3 tyA29 (by kernel_rfl) rfl rfl rfl rfl (by first | rfl | exact kc_len _ | exact kcf_len _ | exact boC_len _ _ | (simp; done)) (by decide) ?_
         refine y_val (r_move (v := .int _ _) rfl rfl) (by kernel_rfl) rfl ?_
         refine y_val (r_conv_i64_u64 Tryz.underlying3 Tryz.underlying22 rfl rfl) (by kernel_rfl) rfl ?_
         refine y_call (g_Derive se 80 (BitVec.ofNat 64 i)) en50 (by kernel_rfl) rfl rfl rfl ?_
         refine y_val (r_neqK tyK29 _ _ (c := false) rfl rfl rfl (by rw [dec_enc]; simp)) (by kernel_rfl) rfl ?_
         refine y_val (r_pick (v := .bool _) rfl rfl rfl) (by kernel_rfl) rfl ?_
         refine yK ?_
         refine y_end ?_
         intro W hW
         refine n_then ?_
         refine c_false rfl ?_
         refine c_skip (n_block (n_then (c_reg ?_)))
         refine l_val (r_addN (n := 1) rfl rfl rfl (by omega)) rfl rfl ?_
         refine aI ?_
         refine l_end (n_then ?_)
         exact loop_next (i + 1) (by kernel_rfl) (hW.drop 1) (by omega) (by omega)
        ·intro hc9
         replace hc9 := of_decide_eq_false hc9
         omega
      ·intro hc6
       replace hc6 := of_decide_eq_false hc6
       refine l_end (n_then (c_seq ?_))
       refine c_false rfl ?_
       refine c_exit (x_then (x_then ?_))
       refine x_hit ?_
       refine n_then (c_seq (c_reg ?_))
       refine aB ?_
       refine bB ?_
       refine l_end (n_then (c_ret ?_))
       refine ret_tmp (v := .bool true) rfl ?_ ⟨rfl, hW.below⟩
       rfl

end Go.Proofs.YtoegpalacppllaaGreat

/- For every root key, scheme, list of at most 64 subsets, number of fakes and session key: the header of a query is the sealed one but for the fakes, whose boxes hold the keys that are derived for them, or an error with no items; no conditions. -/
namespace Go.Proofs.YtoegpalacppllaaGreat
open Go.RowKit Go.ChangeShapes Go.WideShapes Pl Tr Hn

theorem traceHybrids_calls (H : Type) (enc : TypeId × Value → H) (W : World) (base : Nat) (args : Array Value) (ds : List (DataW H)) (ps : List MemPlace) (h : Opened enc Tryz.prog W Tryz.f15 base args ds ps) :
    Calls Tryz.prog 15 args W fun e w' => e = .returned (.bool true) ∧ Below W.heap.size W w' := by
  have r0 := h.args (ts := [29, 26, 33, 3, 29]) (by kernel_rfl)
  generalize hl : args.toList = l0 at r0
  obtain ⟨_, l1, rfl, a0, r1⟩ := r0.cons
  obtain ⟨root, rfl⟩ := a0.key tyK29 (by kernel_rfl)
  obtain ⟨_, l2, rfl, a1, r2⟩ := r1.cons
  obtain ⟨s, rfl⟩ := a1.scheme tyS26
  obtain ⟨_, l3, rfl, a2, r3⟩ := r2.cons
  obtain ⟨l_a, l_n, l_c, l, rfl, l_rd⟩ := a2.subsets Tryz.underlying33 tyQ64
  obtain ⟨_, l4, rfl, a3, r4⟩ := r3.cons
  obtain ⟨f, rfl, f_lo, f_hi⟩ := a3.int Tryz.underlying3
  obtain ⟨_, l5, rfl, a4, r5⟩ := r4.cons
  obtain ⟨se, rfl⟩ := a4.key tyK29 (by kernel_rfl)
  obtain rfl := r5.nil
  rw [arr_of hl]
  exact g_TraceHybrids root s l_a l_n l_c l f se W l_rd
set_option maxRecDepth 100000 in
theorem traceHybrids_closed : joinedFacts Tryz.pinned.checked.prog 15 Tryz.f15 Rows.traceHybridsSpec Rows.traceHybridsRow = true := by kernel_rfl
set_option maxRecDepth 100000 in
theorem traceHybrids_holds : Rows.TraceHybridsSaid :=
  OpenClaim.holds_of_wide 15 Tryz.f15 rfl rfl rfl rfl rfl rfl rfl ⟨rfl, rfl, rfl, rfl, rfl⟩ rfl rfl rfl rfl rfl (by kernel_rfl) Tryz.func15 traceHybrids_closed
    (of_decide_eq_true (by kernel_rfl)) (by unfold Func.isWrapper; first | (rw [if_pos (by decide +kernel)]; kernel_rfl) | (rw [if_neg (by decide +kernel)]; exact ⟨rfl, rfl⟩))
    (fun os started H enc _ => law_lifted (C := Tryz.checked) (s := Rows.traceHybridsSpec) (conds := Rows.traceHybridsRow.domain) 4 (by kernel_rfl) (by kernel_rfl) Tryz.func15 (by kernel_rfl) (by kernel_rfl) rfl
      (fun H ds hd => match ds, hd with | [_, _, _, _, _], _ => rfl) (by kernel_rfl) Tryz.underlying4 traceHybrids_calls os started H enc
      (ChangeSpec.witness6 (enc := enc) (C := Tryz.checked) false ⟨#[], #[.agg #[.int .u8 0, .int .u8 0, .int .u8 0, .int .u8 0, .int .u8 0, .int .u8 0, .int .u8 0, .int .u8 0, .int .u8 0, .int .u8 0, .int .u8 0, .int .u8 0, .int .u8 0, .int .u8 0, .int .u8 0, .int .u8 0], .agg #[.int .u8 0, .int .i64 0, .int .i64 0, .int .u64 0, .int .u64 0, .int .u64 0], .slice none 0 0, .int .i64 0, .agg #[.int .u8 0, .int .u8 0, .int .u8 0, .int .u8 0, .int .u8 0, .int .u8 0, .int .u8 0, .int .u8 0, .int .u8 0, .int .u8 0, .int .u8 0, .int .u8 0, .int .u8 0, .int .u8 0, .int .u8 0, .int .u8 0]], []⟩ 8 (by kernel_rfl) (by kernel_rfl) (by kernel_rfl) (by kernel_rfl)))
#print axioms traceHybrids_holds
end Go.Proofs.YtoegpalacppllaaGreat

