/- For every box of at most 100 receivers with a noise of at most 8, and every list of at most 64 subsets: among twice the noise and one more queries without fakes one is played just if the box knows one of the subsets and is not dead; no conditions. -/
import Derived.Test.YtoegpalacppllaaGreatPkB5
import Derived.Test.YtoegpalacppllaaGreatProg
import Derived.ChangeSlices
import Derived.ChangeMaps5
import Derived.Test.YtoegpalacppllaaGreatRows
/- How blocks at work, portions and texts stand in memory; more on calls and slices. No function of the program is in sight here. -/
namespace Go.Proofs.YtoegpalacppllaaGreat
open Go.RowKit Pl

section
variable {P : Program} {ops : Array Oper} {Q : Exit → Act → World → Prop} {bs : List Value} {us : List (Nat × Value)} {ds : List Deferred} {w0 : Base} {W : World} {rest : List Oper} {o : Oper} {L Bs : List Blk} {d : Nat} {v : Value} {r : Option (Option Nat)} {m : Nat}

/-- a load of a variable of n cells that lay there before the call -/
theorem run_loadFA_at {t : TypeId} {n : Nat} (ht : TyA P t n) {x : Operand} {g : Nat} {cs : List Value} {ty : TypeId} {fz : Nat × Nat} (hh : w0.w.heap[g]? = some (.cells cs.toArray ty fz)) (hn : cs.length = n) (ho : o.op = .load t x) (hx : ev bs us x = .pointer (some ⟨g, 0, none⟩)) (w : World) (hw : Cl w0 L w) :
    (execOp (ev bs us) o).run P w = .ok (.value (.agg cs.toArray)) w := by
  have hlt : g < w0.w.heap.size := (Array.getElem?_eq_some_iff.1 hh).1
  have := run_load_agg ht w ((hw.below.block g hlt).trans hh) (i := 0) (by omega)
  rw [take_all hn] at this
  unfold execOp
  simp only [ho, hx, Instr.loadAt, Instr.sureAddr, Sem.run_bind, Sem.run_pure, Result.andThen_ok, this]
theorem l_loadFA (hW : Cl w0 L W) {t : TypeId} {n : Nat} (ht : TyA P t n) {x : Operand} {g : Nat} {cs : List Value} {ty : TypeId} {fz : Nat × Nat} (hh : w0.w.heap[g]? = some (.cells cs.toArray ty fz)) (hn : cs.length = n) (hg : o.guard = none) (ho : o.op = .load t x) (hx : ev bs us x = .pointer (some ⟨g, 0, none⟩)) (hd : o.dst = some d)
    (h : LW r m P ops Q rest (fr bs ((d, .agg cs.toArray) :: us) ds) W) : LW r m P ops Q (o :: rest) (fr bs us ds) W :=
  l_run hg (run_loadFA_at ht hh hn ho hx W hW) hd h
end

/-! ### blocks at work -/
end Go.Proofs.YtoegpalacppllaaGreat

/- More results, more slices. No function of the program is in sight here. -/
namespace Go.Proofs.YtoegpalacppllaaGreat
open Go.RowKit Pl

section
variable {P : Program} {bs : List Value} {us : List (Nat × Value)} {w0 : Base} {W : World} {L : List Blk} {v : Value} {fn : Func} {R' : Ending → World → Prop}
theorem run_equalBool (d : Nat) {t : TypeId} (ht : P.underlying t = some .bool) (a b : Bool) (w : World) : (Op.equalIn (d + 1) t (.bool a) (.bool b)).run P w = .ok (a == b) w := by
  simp [Op.equalIn, run_underlying ht]
theorem r_eqlBool {o : Oper} {t t' : Nat} {p q : Operand} {a b c : Bool} (ht : P.underlying t = some .bool) (ho : o.op = .binOp .eql t p q t') (hx : ev bs us p = .bool a) (hy : ev bs us q = .bool b) (hc : (a == b) = c) : Runs P bs us o (.bool c) := fun w => by
  subst hc
  have h : (Op.equal t (.bool a) (.bool b)).run P w = .ok (a == b) w := run_equalBool 9999 ht a b w
  unfold execOp
  simp [ho, hx, hy, eqGuard, binOp, h]
section
variable {ops : Array Oper} {Q : Exit → Act → World → Prop} {ds : List Deferred} {rest : List Oper} {o : Oper} {d : Nat} {r : Option (Option Nat)} {m : Nat}
/-! operations under a guard that lets them run -/
end
end
end Go.Proofs.YtoegpalacppllaaGreat

/- Closed facts on types and functions of the program, written by a program. -/
namespace Go.Proofs.YtoegpalacppllaaGreat
open Pl
theorem tyZ4 : TyZ Tryz.prog 4 z4 := fun _ => by kernel_rfl
theorem tyC186 : TyC Tryz.prog 186 := ⟨fun _ => by kernel_rfl, fun _ => by kernel_rfl⟩
theorem en31 : Enters Tryz.prog 31 := enters_of Tryz.func31 (by kernel_rfl) rfl
theorem en46 : Enters Tryz.prog 46 := enters_of Tryz.func46 (by kernel_rfl) rfl
theorem en52 : Enters Tryz.prog 52 := enters_of Tryz.func52 (by kernel_rfl) rfl
theorem en63 : Enters Tryz.prog 63 := enters_of Tryz.func63 (by kernel_rfl) rfl
theorem en64 : Enters Tryz.prog 64 := enters_of Tryz.func64 (by kernel_rfl) rfl
theorem en91 : Enters Tryz.prog 91 := enters_of Tryz.func91 (by kernel_rfl) rfl
theorem en92 : Enters Tryz.prog 92 := enters_of Tryz.func92 (by kernel_rfl) rfl
theorem en109 : Enters Tryz.prog 109 := enters_of Tryz.func109 (by kernel_rfl) rfl
theorem bld130_0_1 (x0 : Int) (x1 : Int) : ∀ w, (Instr.build 130 [(0, .int .i64 x0), (1, .int .i64 x1)].toArray).run Tryz.prog w = .ok (.agg [.int .i64 x0, .int .i64 x1, .int .u8 0, .int .u8 0, .int .u8 0, .int .u8 0, .int .u8 0, .int .u8 0, .int .u8 0, .int .u8 0, .int .u8 0, .int .u8 0, .int .u8 0, .int .u8 0, .int .u8 0, .int .u8 0, .int .u8 0, .int .u8 0].toArray) w := fun _ => by kernel_rfl
end Go.Proofs.YtoegpalacppllaaGreat

/- What a law's arguments are: opened by their types. -/
namespace Go.Proofs.YtoegpalacppllaaGreat
open Go.RowKit Go.ChangeShapes Go.WideShapes Pl

section
variable {P : Program} {W : World}

theorem arr_of {args : Array Value} {l : List Value} (h : args.toList = l) : args = l.toArray := by subst h; simp

end
end Go.Proofs.YtoegpalacppllaaGreat

/- Plain laws of labels: which subsets a receiver's labels lead to. No program is in sight here. -/
namespace Go.Proofs.YtoegpalacppllaaGreat.Tr
open Hn

def labE (s : Sc) (y i k : Nat) : List (Int × Int) :=
  if subB s ((pn s.d.toNat y i : Nat) : Int) ((sib (pn s.d.toNat y k) : Nat) : Int) then [(((pn s.d.toNat y i : Nat) : Int), ((sib (pn s.d.toNat y k) : Nat) : Int))] else []
def rowL (s : Sc) (y i : Nat) : Nat → List (Int × Int)
  | 0 => []
  | k + 1 => rowL s y i k ++ (if i < k then labE s y i k else [])
def labs (s : Sc) (y : Nat) : Nat → List (Int × Int)
  | 0 => [(1, 0)]
  | i + 1 => labs s y i ++ rowL s y i (s.d.toNat + 1)
def lab1 (d y : Nat) : Nat → List (Int × Int)
  | 0 => []
  | i + 1 => lab1 d y i ++ [(((pn d y i : Nat) : Int), 0)]
/-- the labels of a receiver -/
def labN (s : Sc) (u : Nat) : List (Int × Int) := if s.k = 1 then lab1 s.d.toNat (p2 s.d.toNat + u) (s.d.toNat + 1) else labs s (p2 s.d.toNat + u) (s.d.toNat + 1)
theorem rowL_none (s : Sc) (y i : Nat) : ∀ {k : Nat}, k ≤ i + 1 → rowL s y i k = []
  | 0, _ => rfl
  | k + 1, h => by rw [rowL, rowL_none s y i (by omega), if_neg (by omega)]; rfl
theorem lab1_len (d y : Nat) : ∀ i, (lab1 d y i).length = i
  | 0 => rfl
  | i + 1 => by rw [lab1, List.length_append, lab1_len d y i]; rfl
/-- whether a label leads to a subset -/
def leadB (s : Sc) (node minus v w : Int) : Bool :=
  if s.k = 1 ∨ w = 0 then decide (node = v ∧ minus = w) else decide (node = v ∧ 1 ≤ minus) && belowN minus.toNat node.toNat && belowN w.toNat minus.toNat
/-- the index of the first label that leads to a subset, or -1 -/
def knownI (s : Sc) (ls : List (Int × Int)) (v w : Int) : Int := match (List.range ls.length).find? fun i => leadB s (qn ls i) (qm ls i) v w with
  | some i => (i : Int)
  | none => -1
theorem known_no {s : Sc} {ls : List (Int × Int)} {v w : Int} (hb : ∀ k, k < ls.length → leadB s (qn ls k) (qm ls k) v w = false) : knownI s ls v w = -1 := by
  have : (List.range ls.length).find? (fun i => leadB s (qn ls i) (qm ls i) v w) = none := List.find?_eq_none.2 fun j hj => by rw [hb j (List.mem_range.1 hj)]; decide
  rw [knownI, this]
theorem known_iff {s : Sc} {ls : List (Int × Int)} {v w : Int} : 0 ≤ knownI s ls v w ↔ ∃ l ∈ ls, leadB s l.1 l.2 v w = true := by
  constructor
  · intro h
    apply Classical.byContradiction
    intro hn
    have := known_no (s := s) (ls := ls) (v := v) (w := w) fun k hk => by
      rw [← Bool.not_eq_true]
      exact fun e => hn ⟨_, q_mem.2 ⟨k, hk, rfl⟩, e⟩
    omega
  · rintro ⟨l, hl, h⟩
    obtain ⟨i, hi, rfl⟩ := q_mem.1 hl
    unfold knownI
    cases hf : (List.range ls.length).find? fun i => leadB s (qn ls i) (qm ls i) v w with
    | some j => simp only; omega
    | none =>
      have := List.find?_eq_none.1 hf i (List.mem_range.2 hi)
      exact absurd h this
theorem mem_rowL {s : Sc} {y i : Nat} {l : Int × Int} : ∀ {n : Nat}, l ∈ rowL s y i n ↔ ∃ k, k < n ∧ i < k ∧ l ∈ labE s y i k
  | 0 => by simp [rowL]
  | n + 1 => by
    rw [rowL, List.mem_append, mem_rowL]
    constructor
    · rintro (⟨k, h1, h2⟩ | h)
      · exact ⟨k, by omega, h2⟩
      · split at h
        · exact ⟨n, by omega, by assumption, h⟩
        · cases h
    · rintro ⟨k, h1, h2, h3⟩
      by_cases e : k = n
      · subst e; right; rw [if_pos h2]; exact h3
      · exact .inl ⟨k, by omega, h2, h3⟩
theorem mem_labs {s : Sc} {y : Nat} {l : Int × Int} : ∀ {n : Nat}, l ∈ labs s y n ↔ l = (1, 0) ∨ ∃ i k, i < n ∧ k < s.d.toNat + 1 ∧ i < k ∧ l ∈ labE s y i k
  | 0 => by simp [labs]
  | n + 1 => by
    rw [labs, List.mem_append, mem_labs, mem_rowL]
    constructor
    · rintro ((h | ⟨i, k, h1, h2⟩) | ⟨k, h1, h2⟩)
      · exact .inl h
      · exact .inr ⟨i, k, by omega, h2⟩
      · exact .inr ⟨n, k, by omega, h1, h2⟩
    · rintro (h | ⟨i, k, h1, h2, h3, h4⟩)
      · exact .inl (.inl h)
      · by_cases e : i = n
        · subst e; exact .inr ⟨k, h2, h3, h4⟩
        · exact .inl (.inr ⟨i, k, by omega, h2, h3, h4⟩)
theorem mem_lab1 {d y : Nat} {l : Int × Int} : ∀ {n : Nat}, l ∈ lab1 d y n ↔ ∃ i, i < n ∧ l = (((pn d y i : Nat) : Int), 0)
  | 0 => by simp [lab1]
  | n + 1 => by
    rw [lab1, List.mem_append, mem_lab1, List.mem_singleton]
    constructor
    · rintro (⟨i, h, e⟩ | e)
      · exact ⟨i, by omega, e⟩
      · exact ⟨n, by omega, e⟩
    · rintro ⟨i, h, e⟩
      by_cases e2 : i = n
      · subst e2; exact .inr e
      · exact .inl ⟨i, by omega, e⟩
theorem below_trans {a b c : Nat} (h1 : belowN a b = true) (h2 : belowN b c = true) : belowN a c = true := by
  obtain ⟨l1, e1⟩ := below_iff.1 h1
  obtain ⟨l2, e2⟩ := below_iff.1 h2
  refine below_iff.2 ⟨by omega, ?_⟩
  rw [show lev a - lev c = (lev a - lev b) + (lev b - lev c) by omega, ← sh_add, e1, e2]
theorem below_pn {y i : Nat} (hy : y < 128) (hi : i ≤ lev y) : belowN y (pn (lev y) y i) = true ∧ lev (pn (lev y) y i) = i := by
  have h := sh_lev hy (i := lev y - i) (by omega)
  have e : lev (pn (lev y) y i) = i := by rw [pn, h]; omega
  exact ⟨below_iff.2 ⟨by omega, by rw [e]; rfl⟩, e⟩
theorem bet_cut {d : Int} {w t : Nat} : ∀ {m : Nat}, bet d w (t + m) = 0 → bet d (sh w t) m = 0
  | 0, _ => rfl
  | m + 1, h => by
    rw [show t + (m + 1) = (t + m) + 1 by omega, bet] at h
    rw [bet, sh_add, show t + (m + 1) = t + m + 1 by omega]
    split at h
    · rw [if_pos (by assumption)]; exact h
    · rw [if_neg (by assumption)]; exact bet_cut h
theorem lev_mono {a d : Nat} (h0 : 0 < a) (h : a < 2 * p2 d) : lev a ≤ d := by
  rw [lev]
  have := (Nat.log2_lt (show a ≠ 0 by omega) (k := d + 1)).2 (by rw [Nat.pow_succ, ← p2_pow]; omega)
  omega
/-- a receiver has a label that leads to a subset just if it is a member -/
theorem known_mem {s : Sc} {v w : Int} {u : Nat} (hs : schB s = true) (hx : subB s v w = true) (hu : u < p2 s.d.toNat) : (0 ≤ knownI s (labN s u) v w) ↔ memB s v w u = true := by
  obtain ⟨k1, k3, d0, d6, -⟩ := schB_iff.1 hs
  obtain ⟨hv, p1, p3, p4⟩ := sub_parts hx
  have hv2 := node_lt hv d6
  have hp := p2_le (n := s.d.toNat) (by omega)
  have hp0 := p2_pos s.d.toNat
  obtain ⟨v', rfl⟩ : ∃ n : Nat, v = n := ⟨v.toNat, by omega⟩
  obtain ⟨y, hy⟩ : ∃ y, y = p2 s.d.toNat + u := ⟨_, rfl⟩
  have hly : lev y = s.d.toNat := by rw [hy]; exact leaf_lev hu
  have hy2 : y < 128 := by omega
  rw [known_iff, memB, ← hy, labN, ← hy, ← hly, Int.toNat_natCast]
  by_cases hk : s.k = 1
  · obtain rfl := p1 hk
    rw [if_pos hk]
    simp only [decide_true, Bool.true_or, Bool.and_true]
    constructor
    · rintro ⟨l, hl, h⟩
      obtain ⟨i, hi, rfl⟩ := mem_lab1.1 hl
      rw [leadB, if_pos (.inl hk)] at h
      obtain ⟨h1, -⟩ := of_decide_eq_true h
      have := (below_pn hy2 (i := i) (by omega)).1
      rwa [show pn (lev y) y i = v' by simp only at h1; omega] at this
    · intro h
      refine ⟨_, mem_lab1.2 ⟨lev v', by have := (below_iff.1 h).1; omega, rfl⟩, ?_⟩
      rw [leadB, if_pos (.inl hk), pn_of h]
      simp
  · rw [if_neg hk]
    by_cases hw : w = 0
    · have := p3 hk hw
      obtain rfl : v' = 1 := by omega
      subst hw
      simp only [decide_true, Bool.true_or, Bool.and_true]
      refine ⟨fun _ => below_top (by omega) hy2, fun _ => ⟨_, mem_labs.2 (.inl rfl), ?_⟩⟩
      rw [leadB, if_pos (.inr rfl)]; decide
    · obtain ⟨hwn, hne, hbv, hsp⟩ := p4 hk hw
      have hw2 := node_lt hwn d6
      have hwd := of_decide_eq_true hwn
      obtain ⟨w', rfl⟩ : ∃ n : Nat, w = n := ⟨w.toNat, by omega⟩
      simp only [Int.toNat_natCast] at hbv hsp ⊢
      rw [decide_eq_false hw, Bool.false_or, Bool.and_eq_true, Bool.not_eq_true']
      constructor
      · rintro ⟨l, hl, h⟩
        rcases mem_labs.1 hl with rfl | ⟨i, k, h1, h2, h3, h4⟩
        · rw [leadB, if_neg (by rintro (h | h); exact hk h; exact hw h)] at h
          simp at h
        · unfold labE at h4
          split at h4
          · rw [List.mem_singleton] at h4
            subst h4
            rw [leadB, if_neg (by rintro (h | h); exact hk h; exact hw h)] at h
            simp only [Bool.and_eq_true, Int.toNat_natCast, decide_eq_true_eq] at h
            rw [← hly] at h
            obtain ⟨⟨⟨h5, -⟩, h6⟩, h7⟩ := h
            obtain ⟨b1, e1⟩ := below_pn hy2 (i := i) (by omega)
            obtain ⟨b2, e2⟩ := below_pn hy2 (i := k) (by omega)
            have hkl : pn (lev y) y k < 128 := Nat.lt_of_le_of_lt (sh_le _ _) hy2
            have h1k : 1 < pn (lev y) y k := by
              apply Classical.byContradiction
              intro hn
              rw [lev_one (by omega)] at e2
              omega
            refine ⟨by rwa [show pn (lev y) y i = v' by omega] at b1, ?_⟩
            rw [← Bool.not_eq_true]
            intro hb
            have hc := pn_of (below_trans hb h7)
            rw [(sib_all hkl).1 h1k, e2] at hc
            exact (sib_all hkl).2.2.1 hc.symm
          · cases h4
      · rintro ⟨hbyv, hbyw⟩
        have hlw : lev w' ≤ lev y := by rw [hly]; exact lev_mono (by omega) (by omega)
        obtain ⟨k, hk1, hk2, hk3⟩ := part hy2 (by omega) (by omega) (by omega) hlw hbyw
        have hlv := (below_iff.1 hbv).1
        have hkv : lev v' < k := by
          apply Classical.byContradiction
          intro hn
          have a1 := pn_of hbv
          have a2 := pn_of hbyv
          have e1 : pn (lev w') w' k = sh v' (lev v' - k) := by
            rw [pn, show lev w' - k = (lev w' - lev v') + (lev v' - k) by have := (below_iff.1 hbv).1; omega, ← sh_add]
            exact congrArg (fun z => sh z (lev v' - k)) a1
          have e2 : pn (lev y) y k = sh v' (lev v' - k) := by
            rw [pn, show lev y - k = (lev y - lev v') + (lev v' - k) by have := (below_iff.1 hbyv).1; omega, ← sh_add]
            exact congrArg (fun z => sh z (lev v' - k)) a2
          have hkl : pn (lev y) y k < 128 := Nat.lt_of_le_of_lt (sh_le _ _) hy2
          exact (sib_all hkl).2.2.1 (hk2.symm.trans (e1.trans e2.symm))
        have hcl : lev (pn (lev w') w' k) = k := (below_pn (by omega) hk1).2
        have hcw : pn (lev w') w' k ≤ w' := sh_le _ _
        have hc1 : 1 < pn (lev w') w' k := by
          apply Classical.byContradiction
          intro hn
          rw [lev_one (by omega)] at hcl
          omega
        have hcv : belowN (pn (lev w') w' k) v' = true := below_iff.2 ⟨by omega, by rw [hcl, pn, sh_add, show lev w' - k + (k - lev v') = lev w' - lev v' by omega]; exact (below_iff.1 hbv).2⟩
        have hvp : pn (lev y) y (lev v') = v' := pn_of hbyv
        have hsub : subB s (v' : Int) ((pn (lev w') w' k : Nat) : Int) = true := by
          rw [sub_end hv hk (by omega) (decide_eq_true (by omega)) (fun e => by rw [show pn (lev w') w' k = v' by omega] at hcl; omega) (by simpa using hcv)]
          simp only [Int.toNat_natCast, Bool.or_eq_true, decide_eq_true_eq] at hsp ⊢
          rcases hsp with h | h
          · exact .inl h
          · refine .inr ?_
            rw [hcl, pn]
            refine bet_cut ?_
            rwa [show lev w' - k + (k - lev v' - 1) = lev w' - lev v' - 1 by omega]
        refine ⟨((v' : Int), ((pn (lev w') w' k : Nat) : Int)), mem_labs.2 (.inr ⟨lev v', k, by omega, by omega, hkv, ?_⟩), ?_⟩
        · rw [labE, ← hly, hvp, ← hk2, if_pos hsub]; exact List.mem_singleton.2 rfl
        · rw [leadB, if_neg (by rintro (h | h); exact hk h; exact hw h)]
          simp only [Bool.and_eq_true, Int.toNat_natCast, decide_eq_true_eq]
          exact ⟨⟨⟨trivial, by omega⟩, hcv⟩, below_iff.2 ⟨by omega, by rw [hcl]; rfl⟩⟩
theorem lab_pos (s : Sc) (u : Nat) : 0 < (labN s u).length := by
  unfold labN
  split
  · rw [lab1_len]; omega
  · exact List.length_pos_of_mem (mem_labs.2 (.inl rfl))
theorem lab_lt {s : Sc} {u : Nat} (hs : schB s = true) (hu : u < p2 s.d.toNat) (i : Nat) (hi : i < (labN s u).length) : qm (labN s u) i < 128 := by
  obtain ⟨k1, k3, d0, d6, -⟩ := schB_iff.1 hs
  have hp := p2_le (n := s.d.toNat) (by omega)
  have hm := q_mem.2 ⟨i, hi, rfl⟩
  generalize hz : (qn (labN s u) i, qm (labN s u) i) = z at hm
  have e : qm (labN s u) i = z.2 := by rw [← hz]
  rw [e]
  unfold labN at hm
  split at hm
  · obtain ⟨j, -, rfl⟩ := mem_lab1.1 hm
    show (0 : Int) < 128
    decide
  · rcases mem_labs.1 hm with rfl | ⟨j, k, -, -, -, h4⟩
    · show (0 : Int) < 128
      decide
    · unfold labE at h4
      split at h4
      · rw [List.mem_singleton] at h4
        subst h4
        have := (sib_all (Nat.lt_of_le_of_lt (sh_le (p2 s.d.toNat + u) (s.d.toNat - k)) (by omega) : pn s.d.toNat (p2 s.d.toNat + u) k < 128)).2.1
        simp only
        omega
      · cases h4
end Go.Proofs.YtoegpalacppllaaGreat.Tr
namespace Go.Proofs.YtoegpalacppllaaGreat
open Go.RowKit Pl Tr Hn
end Go.Proofs.YtoegpalacppllaaGreat

/- A range over a function whose rounds may leave early (by return), over an iterator that may hold such ranges itself: marks pile up among the deferred calls. No function of the program is in sight here. -/
namespace Go.Proofs.YtoegpalacppllaaGreat
open Go.RowKit

/-- whatever is no cell in r is so in r' -/
def Ext (r r' : World) : Prop := ∀ (k : Nat) (o : Obj), r.heap[k]? = some o → o.isCells = false → r'.heap[k]? = some o
/-- no object but cells, or nothing at all -/
def Fresh (r : World) (D : Nat) : Prop := ∀ o, r.heap[D]? = some o → o.isCells = true
/-- records that change when a round leaves -/
def Sup (r : World) (S : Nat → Option Obj) : Prop := ∀ k o, S k = some o → ∃ rc, r.heap[k]? = some (.loop rc)
def stp (S : Nat → Option Obj) (r : World) : World := { r with heap := r.heap.mapIdx fun k o => (S k).getD o }
def markD (D : Nat) : Deferred := { target := .collected D, args := #[] }
section
variable {P : Program} {ops : Array Oper} {Q : Exit → Act → World → Prop} {bs : List Value} {us : List (Nat × Value)} {ds : List Deferred} {b : Base} {W w r r' r'' r0 r1 r2 : World} {rest : List Oper} {o : Oper} {L Bx : List Blk} {d D : Nat} {v : Value} {m : Nat} {S : Nat → Option Obj}
theorem Ext.rfl' : Ext r r := fun _ _ h _ => h
theorem Ext.trans (h : Ext r r') (h' : Ext r' r'') : Ext r r'' := fun k o hk ho => h' k o (h k o hk ho) ho
theorem Cl.ext (hW : Cl ⟨w, r'⟩ L W) (h : Ext r r') : Cl ⟨w, r⟩ L W := ⟨hW.below, hW.holds, hW.own, hW.apart, fun k o hk ho => hW.oth k o (h k o hk ho) ho⟩
theorem stp_get (k : Nat) : (stp S r).heap[k]? = (r.heap[k]?).map fun o => (S k).getD o := by simp [stp]
theorem Ext.stp (h : Ext r r') (hS : Sup r S) : Ext (stp S r) (stp S r') := by
  intro k o hk ho
  rw [stp_get] at hk ⊢
  cases hr : r.heap[k]? with
  | none => rw [hr] at hk; cases hk
  | some o1 =>
    rw [hr] at hk
    cases hs : S k with
    | none =>
      rw [hs] at hk
      injection hk with hk
      have hk : o1 = o := hk
      subst hk
      rw [h k _ hr ho]; rfl
    | some o' =>
      obtain ⟨rc, hrc⟩ := hS k o' hs
      rw [h k _ hrc rfl]
      rw [hs] at hk
      exact hk
theorem Fresh.no (h : Fresh r D) (hS : Sup r S) : S D = none := by
  cases hs : S D with
  | none => rfl
  | some o =>
    obtain ⟨rc, hrc⟩ := hS D o hs
    cases h _ hrc
theorem stp_at (hs : S D = none) : (stp S r).heap[D]? = r.heap[D]? := by rw [stp_get, hs]; cases r.heap[D]? <;> rfl
theorem Fresh.of (h : Fresh r' D) (he : Ext r r') : Fresh r D := fun o ho => by
  cases hc : o.isCells with
  | true => rfl
  | false => rw [← h _ (he _ _ ho hc), hc]
theorem Fresh.stp (h : Fresh r D) (hS : Sup r S) : Fresh (stp S r) D := fun o ho => h o (by rw [← ho, stp_at (h.no hS)])
theorem Cl.fresh (hW : Cl ⟨w, r⟩ L W) (hD : W.heap.size ≤ D) : Fresh r D := fun o ho => by
  cases hc : o.isCells with
  | true => rfl
  | false =>
    have := (Array.getElem?_eq_some_iff.1 (hW.oth _ _ ho hc)).1
    omega
theorem stp_none : Ext (stp (fun _ => none) r) r := fun k o hk _ => by rw [stp_at rfl] at hk; exact hk
theorem Sup.none : Sup r fun _ => none := fun k o h => by cases h
theorem Sup.ext (h : Sup r S) (he : Ext r r') : Sup r' S := fun k o hk => by obtain ⟨rc, hrc⟩ := h k o hk; exact ⟨rc, he _ _ hrc rfl⟩

/-- an object that is fresh is put anew -/
theorem Cl.putF {o' : Obj} (hW : Cl ⟨w, r⟩ L W) (hf : Fresh r D) (o2 : Obj) (hl : W.heap[D]? = some o') (ho : o'.isCells = false) (hb : w.heap.size ≤ D) : Cl ⟨w, r⟩ L (W.putObj D o2) := by
  have h := hW.put o2 hl ho hb
  refine ⟨h.below, h.holds, h.own, h.apart, fun k o hk hc => ?_⟩
  by_cases hkl : k = D
  · subst hkl; rw [hf _ hk] at hc; cases hc
  · exact (World.putObj_heap_other hkl).trans (hW.oth k o hk hc)

/-- the marks that have piled up since r0 -/
def MkOk (w r0 r1 : World) (ds : List Deferred) : Prop := Ext r0 r1 ∧ ∃ Ds : List Nat, ds = Ds.map markD ∧ Ds.Nodup ∧ ∀ D ∈ Ds, w.heap.size ≤ D ∧ Fresh r0 D ∧ r1.heap[D]? = some (.deferred (some []))
theorem MkOk.nil : MkOk w r r [] := ⟨Ext.rfl', [], rfl, List.nodup_nil, fun _ h => absurd h List.not_mem_nil⟩
theorem MkOk.cons (h : MkOk w r0 r1 ds) (he : Ext r1 r2) (hf : Fresh r1 D) (hD : r2.heap[D]? = some (.deferred (some []))) (hw : w.heap.size ≤ D) : MkOk w r0 r2 (markD D :: ds) := by
  obtain ⟨h0, Ds, rfl, hn, h⟩ := h
  refine ⟨h0.trans he, D :: Ds, rfl, List.nodup_cons.2 ⟨fun hm => ?_, hn⟩, ?_⟩
  · cases hf _ (h D hm).2.2
  · intro k hk
    rcases List.mem_cons.1 hk with rfl | hk
    · exact ⟨hw, hf.of h0, hD⟩
    · obtain ⟨h1, h2, h3⟩ := h k hk
      exact ⟨h1, h2, he _ _ h3 rfl⟩
theorem MkOk.stp (h : MkOk w r0 r1 ds) (hS : Sup r0 S) : MkOk w (stp S r0) (stp S r1) ds := by
  obtain ⟨h0, Ds, rfl, hn, h⟩ := h
  refine ⟨h0.stp hS, Ds, rfl, hn, fun D hD => ?_⟩
  obtain ⟨h1, h2, h3⟩ := h D hD
  exact ⟨h1, h2.stp hS, by rw [stp_at (h2.no hS)]; exact h3⟩
/-- the same marks, seen from what came later -/
theorem MkOk.ext (h : MkOk w r0 r1 ds) (he : Ext r1 r2) : MkOk w r0 r2 ds := by
  obtain ⟨h0, Ds, rfl, hn, h⟩ := h
  exact ⟨h0.trans he, Ds, rfl, hn, fun D hD => by obtain ⟨h1, h2, h3⟩ := h D hD; exact ⟨h1, h2, he _ _ h3 rfl⟩⟩

variable {fn : Func} {R' : Ending → World → Prop}
theorem leaves_marks {tmps : Array Value} (h : ∀ W, Cl ⟨w, r0⟩ L W → LeavesInM Fence.wide 0 P fn tmps R' [] .returning W) : ∀ (Ds : List Nat) (W : World), Ds.Nodup → (∀ D ∈ Ds, w.heap.size ≤ D ∧ Fresh r0 D ∧ W.heap[D]? = some (.deferred (some []))) → Cl ⟨w, r0⟩ L W → LeavesInM Fence.wide 0 P fn tmps R' (Ds.map markD) .returning W
  | [], W, _, _, hW => h W hW
  | D :: Ds, W, hn, hD, hW => by
    obtain ⟨h1, h2, h3⟩ := hD D List.mem_cons_self
    obtain ⟨hn1, hn2⟩ := List.nodup_cons.1 hn
    refine ⟨by simp, .inl ⟨D, _, rfl, run_takeDeferred h3, ?_⟩⟩
    refine leaves_marks h Ds _ hn2 (fun D' hD' => ?_) (hW.putF h2 _ h3 rfl h1)
    obtain ⟨g1, g2, g3⟩ := hD D' (List.mem_cons_of_mem _ hD')
    exact ⟨g1, g2, (World.putObj_heap_other (fun (e : D' = D) => hn1 (by rw [← e]; exact hD'))).trans g3⟩
theorem ret_marks (hM : MkOk w r0 r1 ds) (hW : Cl ⟨w, r1⟩ L W) (h : ∀ W, Cl ⟨w, r0⟩ L W → bodyPost P fn R' .ret (fr bs us []) W) : bodyPostM Fence.wide 0 P fn R' .ret (fr bs us ds) W := by
  obtain ⟨h0, Ds, rfl, hn, hD⟩ := hM
  show LeavesInM Fence.wide 0 P fn (fr bs us (Ds.map markD)).tmps R' (Ds.map markD) .returning W
  refine leaves_marks (L := L) (w := w) (r0 := r0) (fun W hW => ?_) Ds W hn (fun D h => ?_) (hW.ext h0)
  · exact (h W hW).2
  · obtain ⟨h1, h2, h3⟩ := hD D h
    exact ⟨h1, h2, hW.oth _ _ h3 rfl⟩
theorem end_marks (hM : MkOk w r0 r1 ds) (hW : Cl ⟨w, r1⟩ L W) (h : ∀ W, Cl ⟨w, r0⟩ L W → bodyPost P fn R' .ret (fr bs us []) W) : bodyPostM Fence.wide 0 P fn R' .normal (fr bs us ds) W := ret_marks hM hW h

/-- what an iterator does whose consumer says at each round whether it goes on -/
def IterT (P : Program) (w : World) (gf : Nat) (lb : Array Value) (n : Nat) (enc : Nat → Array Value) (Bx : List Blk) : Prop :=
  ∀ (r : World) (l : Nat) (c : Nat → Bool) (S : Nat → Option Obj) (Lc : Nat → List Blk) (Lx : List Blk) (W : World), Sup r S →
    (∀ (r' : World) (i : Nat) (L : List Blk) (W : World), Ext r r' → i < n → (∀ j, j < i → c j = true) → Cl ⟨w, r'⟩ (L ++ (Bx ++ Lc i)) W →
      YieldAt Fence.wide 0 P l (enc i) W fun e W' => e = .returned (.bool (c i)) ∧ (c i = true → Cl ⟨w, r'⟩ (L ++ (Bx ++ Lc (i + 1))) W') ∧ (c i = false → Cl ⟨w, stp S r'⟩ (L ++ (Bx ++ Lx)) W')) →
    Cl ⟨w, r⟩ (Bx ++ Lc 0) W → CallsIn Fence.wide 0 P gf (#[.func (.yield l) #[] #[]] ++ lb) W fun e W' => (∃ v, e = .returned v) ∧ (((∀ j, j < n → c j = true) ∧ Cl ⟨w, r⟩ (Bx ++ Lc n) W') ∨ ((∃ j, j < n ∧ c j = false) ∧ Cl ⟨w, stp S r⟩ (Bx ++ Lx) W'))

theorem l_yieldN {rk : Option Nat} {l : Nat} {t : Bool} {x : Operand} {xs : Array Operand} {ts : Array TypeId} {args : List Value} {R : World → Prop} (hY : YieldAt Fence.wide 0 P l args.toArray W fun e W' => e = .returned (.bool t) ∧ R W')
    (hg : Region.wanted o (yielded ops (fr bs us ds).tmps) = true) (ho : o.op = .call { callee := .value x, args := xs, argTypes := ts }) (hx : ev bs us x = .func (.yield l) #[] #[]) (ha : xs.toList.map (ev bs us) = args) (hd : o.dst = some d)
    (h : ∀ W', R W' → LW (some rk) 0 P ops Q rest (fr bs ((d, .bool t) :: us) ds) W') : LW (some rk) 0 P ops Q (o :: rest) (fr bs us ds) W := by
  refine ⟨wpListIn_step fun K hK => ?_⟩
  rw [if_pos hg]
  refine ⟨about_ok rk, ?_⟩
  obtain ⟨fn, tmps, assign, body, hr, hR⟩ := hY
  have hrun : (execOp (fr bs us ds).eval o).run P W = .ok (.round l fn tmps assign body) W := by rw [eval_ev, run_callY ho hx ha]; exact hr
  have e : o.semAt (RF rk).round (fr bs us ds).eval = execOp (fr bs us ds).eval o := Oper.semAt_eq _ _ _ (not_defer hrun (fun d h => by cases h))
  rw [e, hrun, Oper.uponIn_round]
  refine ⟨RF_depth rk, ?_⟩
  have hR2 : RoundIn (RF rk) 0 P l fn tmps assign body W fun e W' => e = .returned (.bool t) ∧ R W' := by cases rk <;> exact hR
  refine RoundIn.mono hR2 ?_
  rintro e w ⟨rfl, hw⟩
  refine hK _ _ ?_
  rw [hd, put_st]
  exact (h w hw).h

theorem c_rangeT {g : Operand} {ps : Array Tmp} {assign body : Code} {gf : FuncId} {lb : Array Value} {n : Nat} {enc : Nat → Array Value} (hI : IterT P w gf lb n enc Bx) (en : Enters P gf) (hg : ev bs us g = .func (.func gf) #[] lb) (hps : ∀ i, (enc i).size = ps.size)
    (hM : MkOk w r0 r1 ds) (hS : Sup r0 S) (c : Nat → Bool) (Lc : Nat → List Blk) (Lx : List Blk) (hW : Cl ⟨w, r1⟩ (Bx ++ Lc 0) W) (A : Nat → Act)
    (E : Nat → List Value) (hE : ∀ i, ({ tmps := (ps.zip (enc i)).foldl (fun t (p, v) => t.setIfInBounds p v) (fr bs us ds).tmps, defers := [] } : Act) = fr (E i) [] [])
    (hassign : ∀ (l i : Nat) (W : World), CW (some (some l)) 0 P assign (Exit.then (fun a W' => a = A i ∧ W' = W) (fun _ _ _ => False)) (fr (E i) [] []) W)
    (hbody : ∀ (l : Nat) (r : World) (i : Nat) (L : List Blk) (W : World), Ext r1 r → i < n → (∀ j, j < i → c j = true) → Cl ⟨w, r⟩ ((Bx ++ Lc i) ++ L) W →
      CW (some (some l)) 0 P body (fun e _ W' => (c i = true ∧ e = .normal ∧ Cl ⟨w, r⟩ ((Bx ++ Lc (i + 1)) ++ L) W') ∨ (c i = false ∧ e = .ret ∧ Cl ⟨w, stp S r⟩ ((Bx ++ Lx) ++ L) W')) (A i) W)
    (hdone : ∀ (ds' : List Deferred) (r W' : World), (∀ j, j < n → c j = true) → MkOk w r0 r ds' → Ext r1 r → Cl ⟨w, r⟩ (Bx ++ Lc n) W' → Q .normal (fr bs us ds') W')
    (hleft : ∀ (ds' : List Deferred) (r W' : World), (∃ j, j < n ∧ c j = false) → MkOk w (stp S r0) r ds' → Cl ⟨w, r⟩ (Bx ++ Lx) W' → Q .ret (fr bs us ds') W') :
    CW (some none) 0 P (Code.rangeFunc g ps assign body) Q (fr bs us ds) W := by
  refine wpIn_rangeFunc ?_
  intro fn hfn
  obtain ⟨rec, hrec⟩ : ∃ rec : LoopState → Option Code → Loop, rec = fun st pe => { state := st, pending := pe, fn, tmps := (fr bs us ds).tmps, params := ps, assign, body, defers := W.heap.size } := ⟨_, rfl⟩
  obtain ⟨W1, hW1⟩ : ∃ W1, (W.alloc (.deferred (some []))).alloc (.loop (rec .ready none)) = W1 := ⟨_, rfl⟩
  have hL1 : W1.heap[W.heap.size + 1]? = some (.loop (rec .ready none)) := by
    rw [← hW1]; have := World.alloc_heap_new (W.alloc (.deferred (some []))) (.loop (rec .ready none)); rwa [World.size_alloc] at this
  have hK1 : W1.heap[W.heap.size]? = some (.deferred (some [])) := by
    rw [← hW1]; exact (Below.heap_alloc _ _ _ (by simp)).trans (World.alloc_heap_new W _)
  have hb1 : Below W.heap.size W W1 := by
    rw [← hW1]; exact ((Below.refl _ W).alloc (Nat.le_refl _) _).alloc (by simp) _
  have hC1 : Cl ⟨w, W1⟩ (Bx ++ Lc 0) W1 := hW.rebase hb1
  have hE1 : Ext r1 W1 := fun k o hk ho => (hb1.block k (Array.getElem?_eq_some_iff.1 (hW.oth k o hk ho)).1).trans (hW.oth k o hk ho)
  have hsz : w.heap.size ≤ W.heap.size := hW.below.size
  have hS1 : Sup r1 S := hS.ext hM.1
  have hfD : Fresh r1 W.heap.size := hW.fresh (Nat.le_refl _)
  have hfl : Fresh r1 (W.heap.size + 1) := hW.fresh (by omega)
  have hSl : S (W.heap.size + 1) = none := hfl.no hS1
  have hSD : S W.heap.size = none := hfD.no hS1
  obtain ⟨S', hS'⟩ : ∃ S' : Nat → Option Obj, S' = fun j => if j = W.heap.size + 1 then some (.loop (rec .done (some .ret))) else S j := ⟨_, rfl⟩
  have hS1' : Sup W1 S' := by
    intro k o hk
    rw [hS'] at hk
    by_cases hkl : k = W.heap.size + 1
    · subst hkl; exact ⟨_, hL1⟩
    · simp only [if_neg hkl] at hk
      exact (hS1.ext hE1) k o hk
  refine ⟨W.heap.size + 1, [markD W.heap.size], W1, { target := .fn (.func gf) lb, args := #[.func (.yield (W.heap.size + 1)) #[] #[]] }, W1, gf,
    #[.func (.yield (W.heap.size + 1)) #[] #[]] ++ lb, W1, ?_, ?_, fun _ _ => trivial, ?_, fun h => RF_depth none h, ?_⟩
  · rw [← hW1, hrec]; exact run_enterLoop_outer _ _ _ _ _
  · rw [eval_ev]; simp only [resolve, hg]
    simp [go_sem]
    rfl
  · simp [invoke, go_sem, en _ W1]
  · refine (hI W1 (W.heap.size + 1) c S' Lc Lx W1 hS1' ?_ hC1).mono ?_
    · intro r' i L W2 hr' hi hj hcl
      have hlr := hr' _ _ hL1 rfl
      have hl := hcl.oth _ _ hlr rfl
      have hy := run_yield (P := P) (args := enc i) hl (by rw [hrec]; exact hps i)
      rw [hrec] at hy
      refine ⟨fn, _, assign, body, hy, roundIn_of_wpIn hfn ((hE i) ▸ wpIn_mono (hassign (W.heap.size + 1) i W2) ?_)⟩
      intro e a W3 he
      cases e with
      | normal =>
        obtain ⟨rfl, rfl⟩ := he
        refine ⟨_, run_beginRound hl (by rw [hrec]), ?_⟩
        have hlt : W.heap.size + 1 < W3.heap.size := (Array.getElem?_eq_some_iff.1 hl).1
        have hltr : W.heap.size + 1 < r'.heap.size := (Array.getElem?_eq_some_iff.1 hlr).1
        obtain ⟨rb, hrb⟩ : ∃ rb, rb = r'.putObj (W.heap.size + 1) (.loop { rec .ready none with state := .busy }) := ⟨_, rfl⟩
        have hlb : rb.heap[W.heap.size + 1]? = some (.loop { rec .ready none with state := .busy }) := by rw [hrb]; exact World.putObj_heap_same hltr
        have hob : ∀ k, k ≠ W.heap.size + 1 → rb.heap[k]? = r'.heap[k]? := fun k hk => by rw [hrb]; exact World.putObj_heap_other hk
        have hEb : Ext r1 rb := fun k o hk ho => by
          by_cases hkl : k = W.heap.size + 1
          · subst hkl; rw [hfl _ hk] at ho; cases ho
          · rw [hob k hkl]; exact hr' k o (hE1 k o hk ho) ho
        have hput := hcl.put (.loop { rec .ready none with state := .busy }) hl rfl (show w.heap.size ≤ _ by omega)
        have hclb : Cl ⟨w, rb⟩ ((Bx ++ Lc i) ++ L) (W3.putObj (W.heap.size + 1) (.loop { rec .ready none with state := .busy })) := by
          refine Cl.perm ⟨hput.below, hput.holds, hput.own, hput.apart, fun k o hk ho => ?_⟩ List.perm_append_comm
          by_cases hkl : k = W.heap.size + 1
          · subst hkl
            have hk : rb.heap[W.heap.size + 1]? = some o := hk
            rw [hlb] at hk
            rw [← hk]
            exact World.putObj_heap_same hlt
          · exact (World.putObj_heap_other hkl).trans (hcl.oth k o (by rw [← hob k hkl]; exact hk) ho)
        refine wpIn_mono (hbody (W.heap.size + 1) rb i L _ hEb hi hj hclb) ?_
        rintro e a W4 (⟨hc, rfl, h4⟩ | ⟨hc, rfl, h4⟩)
        · have hl4 := h4.oth _ _ hlb rfl
          refine ⟨_, _, run_endRound none hl4, by rw [hc]; rfl, fun _ => ?_, fun hc' => (by rw [hc] at hc'; cases hc')⟩
          have h5 := (h4.perm List.perm_append_comm).put (.loop (rec .ready none)) hl4 rfl (show w.heap.size ≤ _ by omega)
          have hpo : (W4.putObj (W.heap.size + 1) (.loop { ({ rec .ready none with state := .busy } : Loop) with state := if (none : Option Code).isNone then .ready else .done, pending := none })) = W4.putObj (W.heap.size + 1) (.loop (rec .ready none)) := by rw [hrec]; rfl
          rw [hpo]
          refine ⟨h5.below, h5.holds, h5.own, h5.apart, fun k o hk ho => ?_⟩
          by_cases hkl : k = W.heap.size + 1
          · subst hkl
            have hk' : r'.heap[W.heap.size + 1]? = some o := hk
            rw [hlr] at hk'
            rw [← hk']
            exact World.putObj_heap_same (Array.getElem?_eq_some_iff.1 hl4).1
          · exact (World.putObj_heap_other hkl).trans (h4.oth k o ((hob k hkl).trans hk) ho)
        · have hl4 : W4.heap[W.heap.size + 1]? = some (.loop { rec .ready none with state := .busy }) := h4.oth _ _ (by show (stp S rb).heap[_]? = _; rw [stp_at hSl]; exact hlb) rfl
          refine ⟨_, _, run_endRound (some .ret) hl4, by rw [hc]; rfl, fun hc' => (by rw [hc] at hc'; cases hc'), fun _ => ?_⟩
          have h5 := (h4.perm List.perm_append_comm).put (.loop (rec .done (some .ret))) hl4 rfl (show w.heap.size ≤ _ by omega)
          have hpo : (W4.putObj (W.heap.size + 1) (.loop { ({ rec .ready none with state := .busy } : Loop) with state := if (some Code.ret : Option Code).isNone then .ready else .done, pending := some .ret })) = W4.putObj (W.heap.size + 1) (.loop (rec .done (some .ret))) := by rw [hrec]; rfl
          rw [hpo]
          refine ⟨h5.below, h5.holds, h5.own, h5.apart, fun k o hk ho => ?_⟩
          have hk : (stp S' r').heap[k]? = some o := hk
          by_cases hkl : k = W.heap.size + 1
          · subst hkl
            rw [stp_get, hlr] at hk
            injection hk with hk
            have hk : ((S' (W.heap.size + 1)).getD (.loop (rec .ready none))) = o := hk
            rw [hS'] at hk
            simp only [if_true, Option.getD_some] at hk
            rw [← hk]
            exact World.putObj_heap_same (Array.getElem?_eq_some_iff.1 hl4).1
          · refine (World.putObj_heap_other hkl).trans (h4.oth k o ?_ ho)
            show (stp S rb).heap[k]? = some o
            have e : S' k = S k := by rw [hS']; simp only [if_neg hkl]
            rw [stp_get, e] at hk
            rw [stp_get, hob k hkl]; exact hk
      | _ => exact he.elim
    · rintro e W3 ⟨⟨v, rfl⟩, ⟨hc, h3⟩ | ⟨hc, h3⟩⟩
      · have hl := h3.oth _ _ hL1 rfl
        have hk := h3.oth _ _ hK1 rfl
        refine ⟨_, _, run_endLoop hl (by rw [hrec]; simp), ?_⟩
        have hpe : (rec .ready none).pending = none := by rw [hrec]
        rw [hpe]
        refine (fun (key : ∀ o5, Q .normal (fr bs us (markD W.heap.size :: ds)) (W3.putObj (W.heap.size + 1) o5)) => key _) (fun o5 => ?_)
        have h5 := h3.put o5 hl rfl (show w.heap.size ≤ _ by omega)
        have hE5 : Ext r1 (W3.putObj (W.heap.size + 1) o5) := fun k o hk ho => by
          by_cases hkl : k = W.heap.size + 1
          · subst hkl; rw [hfl _ hk] at ho; cases ho
          · exact (World.putObj_heap_other hkl).trans (h3.oth _ _ (hE1 k o hk ho) ho)
        exact hdone _ _ _ hc (hM.cons hE5 hfD ((World.putObj_heap_other (by omega)).trans hk) hsz) hE5 h5
      · have hl : W3.heap[W.heap.size + 1]? = some (.loop (rec .done (some .ret))) := h3.oth _ _ (by show (stp S' W1).heap[_]? = _; rw [stp_get, hL1, hS']; simp) rfl
        have hk : W3.heap[W.heap.size]? = some (.deferred (some [])) := h3.oth _ _ (by show (stp S' W1).heap[_]? = _; rw [stp_at (by rw [hS']; simp only; rw [if_neg (by omega)]; exact hSD)]; exact hK1) rfl
        refine ⟨_, _, run_endLoop hl (by rw [hrec]; simp), ?_⟩
        have hpe : (rec .done (some .ret)).pending = some .ret := by rw [hrec]
        rw [hpe]
        refine (fun (key : ∀ o5, CW (some none) 0 P Code.ret Q (fr bs us (markD W.heap.size :: ds)) (W3.putObj (W.heap.size + 1) o5)) => key _) (fun o5 => ?_)
        have h5 := h3.put o5 hl rfl (show w.heap.size ≤ _ by omega)
        have hE5 : Ext (stp S r1) (W3.putObj (W.heap.size + 1) o5) := fun k o hk ho => by
          by_cases hkl : k = W.heap.size + 1
          · subst hkl; rw [stp_at hSl] at hk; rw [hfl _ hk] at ho; cases ho
          · refine (World.putObj_heap_other hkl).trans (h3.oth _ _ ?_ ho)
            have := hE1.stp hS1 k o hk ho
            show (stp S' W1).heap[k]? = some o
            rw [stp_get] at this ⊢
            have e : S' k = S k := by rw [hS']; simp only [if_neg hkl]
            rw [e]; exact this
        exact c_ret (hleft _ _ _ hc ((hM.stp hS).cons hE5 (hfD.stp hS1) ((World.putObj_heap_other (by omega)).trans hk) hsz) h5)

theorem iterT_of {gf : FuncId} {c : Code} {lb : List Value} {n : Nat} {enc : Nat → Array Value} {F : Nat → List Value} (hf : P.funcs[gf]? = some fn) (hb : fn.body = some c) (hl : ∀ l, [Value.func (.yield l) #[] #[]] ++ lb ++ List.replicate (fn.ntmps - (lb.length + 1)) undef = F l)
    (h : ∀ (r : World) (l : Nat) (cc : Nat → Bool) (S : Nat → Option Obj) (Lc : Nat → List Blk) (Lx : List Blk) (W : World), Sup r S →
      (∀ (r' : World) (i : Nat) (L : List Blk) (W : World), Ext r r' → i < n → (∀ j, j < i → cc j = true) → Cl ⟨w, r'⟩ (L ++ (Bx ++ Lc i)) W →
        YieldAt Fence.wide 0 P l (enc i) W fun e W' => e = .returned (.bool (cc i)) ∧ (cc i = true → Cl ⟨w, r'⟩ (L ++ (Bx ++ Lc (i + 1))) W') ∧ (cc i = false → Cl ⟨w, stp S r'⟩ (L ++ (Bx ++ Lx)) W')) →
      Cl ⟨w, r⟩ (Bx ++ Lc 0) W → CW (some none) 0 P c (bodyPostM Fence.wide 0 P fn (fun e W' => (∃ v, e = .returned v) ∧ (((∀ j, j < n → cc j = true) ∧ Cl ⟨w, r⟩ (Bx ++ Lc n) W') ∨ ((∃ j, j < n ∧ cc j = false) ∧ Cl ⟨w, stp S r⟩ (Bx ++ Lx) W')))) (fr (F l) [] []) W) : IterT P w gf lb.toArray n enc Bx := fun r l c S Lc Lx W hS hY hW => by
  refine callsIn_of_wp_marks hf hb trivial ?_
  have e : #[Value.func (.yield l) #[] #[]] ++ lb.toArray ++ Array.replicate (fn.ntmps - (#[Value.func (.yield l) #[] #[]] ++ lb.toArray).size) undef = (F l).toArray := by
    rw [← hl]; simp
  rw [e]
  exact h r l c S Lc Lx W hS hY hW

/-- a loop in which marks pile up -/
theorem c_loopD {rk : Option (Option Nat)} {c : Code} {α : Type} (F : α → (Nat → Value) → List Value) (B : α → List Blk) (H : α → Prop) (μ : α → Nat) (x0 : α) (hl : toL bs us = F x0 (look bs us)) (hM : MkOk w r0 r1 ds) (hW : Cl ⟨w, r1⟩ (B x0) W) (h0 : H x0)
    (round : ∀ x j r1 ds W, H x → MkOk w r0 r1 ds → Cl ⟨w, r1⟩ (B x) W → CW rk m P c (Exit.then (fun a' W' => ∃ x' j' r1' ds', a' = fr (F x' j') [] ds' ∧ MkOk w r0 r1' ds' ∧ Cl ⟨w, r1'⟩ (B x') W' ∧ H x' ∧ μ x' < μ x) Q) (fr (F x j) [] ds) W) : CW rk m P (Code.loop c) Q (fr bs us ds) W := by
  refine CW.loop (fun n a W => ∃ x j r1 ds, a = fr (F x j) [] ds ∧ MkOk w r0 r1 ds ∧ Cl ⟨w, r1⟩ (B x) W ∧ H x ∧ μ x = n) (μ x0) ⟨x0, look bs us, r1, ds, by rw [← hl]; rfl, hM, hW, h0, rfl⟩ ?_
  rintro n a W ⟨x, j, r1, ds, rfl, hM, hB, hx, rfl⟩
  refine CW.mono (round x j r1 ds W hx hM hB) ?_
  intro e a W h
  cases e with
  | normal =>
    obtain ⟨x', j', r1', ds', ha, hM', hB', hx', hm⟩ := h
    exact ⟨μ x', hm, x', j', r1', ds', ha, hM', hB', hx', rfl⟩
  | exit id => exact h
  | goto t => exact h
  | ret => exact h
  | panic ch => exact h
  | outgrown => exact h
theorem loop_nextD {α : Type} {F : α → (Nat → Value) → List Value} {B : α → List Blk} {H : α → Prop} {μ : α → Nat} {mm : Nat} (x' : α) (hl : toL bs us = F x' (look bs us)) (hM : MkOk w r0 r1 ds) (hW : Cl ⟨w, r1⟩ (B x') W) (hH : H x') (hm : μ x' < mm) :
    ∃ x' j' r1' ds', fr bs us ds = fr (F x' j') [] ds' ∧ MkOk w r0 r1' ds' ∧ Cl ⟨w, r1'⟩ (B x') W ∧ H x' ∧ μ x' < mm := ⟨x', look bs us, r1, ds, by rw [← hl]; rfl, hM, hW, hH, hm⟩
theorem givesRM_of {f : FuncId} {c : Code} {args : List Value} {Pre : World → Prop} (hf : P.funcs[f]? = some fn) (hb : fn.body = some c) (hl : args ++ List.replicate (fn.ntmps - args.length) undef = bs)
    (h : ∀ w, Pre w → Cl (base w) [] w → CW (some none) 0 P c (bodyPostM Fence.wide 0 P fn (fun e w' => e = .returned v ∧ Below w.heap.size w w')) (fr bs [] []) w) : GivesR P f args.toArray Pre v := fun w hp => by
  refine callsIn_wide.1 (callsIn_of_wp_marks (n := 0) hf hb trivial ?_)
  have e : args.toArray ++ Array.replicate (fn.ntmps - args.toArray.size) undef = bs.toArray := by
    rw [← hl]; simp
  rw [e]
  exact h w hp (Cl.nil w)
theorem heap_past {g : Nat} {o : Obj} (hb : Below w.heap.size w r) (h : w.heap[g]? = some o) : r.heap[g]? = some o := (hb.block g (Array.getElem?_eq_some_iff.1 h).1).trans h
theorem perm_in {A B X L : List Blk} : ((A ++ (B ++ X)) ++ L).Perm ((A ++ (B ++ L)) ++ X) := by
  rw [List.append_assoc, List.append_assoc, List.append_assoc, List.append_assoc]
  exact List.Perm.append_left _ (List.Perm.append_left _ List.perm_append_comm)
end
end Go.Proofs.YtoegpalacppllaaGreat

/- Plain laws of the cipher's round trips. No program is in sight here. -/
namespace Go.Proofs.YtoegpalacppllaaGreat.Pl
theorem number_lt (k : Kw) (n : W64) {most : W64} (h : ¬ most = 0#64) : (number k n most).toNat < most.toNat := by
  unfold number
  rw [if_neg h, BitVec.toNat_umod]
  refine Nat.mod_lt _ (Nat.pos_of_ne_zero fun e => h (BitVec.eq_of_toNat_eq (by simpa using e)))
end Go.Proofs.YtoegpalacppllaaGreat.Pl

/- What a trace proves: noise, deadness, who is named. No program is in sight here. -/
namespace Go.Proofs.YtoegpalacppllaaGreat.Tr
open Hn

/-- of so many queries one is not hidden by noise -/
theorem noise_calm {b : Bo} (n0 : 0 ≤ b.n) (n8 : b.n ≤ 8) (a0 : 0 ≤ b.a) : ∃ j : Nat, (j : Int) < 2 * b.n + 1 ∧ noiseB { b with a := b.a + (j : Int) } = false := by
  obtain ⟨B, hB⟩ : ∃ B, B = b.n.toNat + 1 := ⟨_, rfl⟩
  obtain ⟨q, hq⟩ : ∃ q, q = (b.a.toNat + B - 1) / B := ⟨_, rfl⟩
  have h1 := Nat.div_add_mod (b.a.toNat + B - 1) B
  have h2 := Nat.mod_lt (b.a.toNat + B - 1) (show 0 < B by omega)
  rw [← hq] at h1
  have hBn : (BitVec.ofNat 64 B).toNat = B := by rw [BitVec.toNat_ofNat]; omega
  obtain ⟨r, hr⟩ : ∃ r, r = (Pl.number b.k (BitVec.ofNat 64 q) (BitVec.ofNat 64 B)).toNat := ⟨_, rfl⟩
  have hlt : r < B := by
    have := Pl.number_lt b.k (BitVec.ofNat 64 q) (most := BitVec.ofNat 64 B) (fun e => by rw [e] at hBn; simp at hBn; omega)
    omega
  refine ⟨B * q + r - b.a.toNat, by omega, ?_⟩
  have e : (b.a + ((B * q + r - b.a.toNat : Nat) : Int)).toNat = B * q + r := by omega
  have e1 : (B * q + r) / B = q := by rw [Nat.mul_add_div (by omega), Nat.div_eq_of_lt hlt]; omega
  have e2 : (B * q + r) % B = r := by rw [Nat.mul_add_mod, Nat.mod_eq_of_lt hlt]
  unfold noiseB
  simp only [e, ← hB, e1, e2]
  rw [decide_eq_false_iff_not, Classical.not_not, ← hr, BitVec.toNat_ofNat]
  omega
theorem noise_congr {b c : Bo} (hk : b.k = c.k) (hn : b.n = c.n) (ha : b.a = c.a) : noiseB b = noiseB c := by unfold noiseB; rw [hk, hn, ha]
/-- a box after so many queries of the same kind -/
def asks (o : List Bool) (f : Int) : Nat → Bo → Bo
  | 0, b => b
  | j + 1, b => asks o f j (askd b o f)
theorem asks_succ (o : List Bool) (f : Int) : ∀ (j : Nat) (b : Bo), asks o f (j + 1) b = askd (asks o f j b) o f
  | 0, _ => rfl
  | j + 1, b => asks_succ o f j (askd b o f)
theorem asks_run {b0 : Bo} (o : List Bool) (f : Int) : ∀ (j : Nat) {b : Bo} {c : Nat}, Askd b0 b c → Askd b0 (asks o f j b) (c + j)
  | 0, b, c, h => h
  | j + 1, b, c, h => by
    rw [show c + (j + 1) = c + 1 + j by omega]
    exact asks_run o f j (h.ask o f)
/-- whether a box would play, but for noise and death -/
def wishB (b : Bo) (o : List Bool) (f : Int) : Bool := !decide ((stp o f o.length).1 = 0) && (decide ((stp o f o.length).2.1 = 0) || playB b (stp o f o.length).1 (stp o f o.length).2.1 (stp o f o.length).2.2)
def deadB (b : Bo) : Bool := decide (0 < b.v ∧ b.v < b.x)
theorem plays_iff {b : Bo} {o : List Bool} {f : Int} : plays b o f = true ↔ wishB b o f = true ∧ ¬ (0 < b.v ∧ b.v < (askd b o f).x) ∧ noiseB b = false := by
  unfold plays askW wishB
  rw [show (after b (stp o f o.length).1 (stp o f o.length).2.1) = askd b o f from rfl]
  generalize stp o f o.length = s
  constructor
  · intro h
    split at h
    · cases h
    · next hn =>
      have h1 : ¬ s.1 = 0 := fun e => hn (.inl e)
      have h2 : ¬ (0 < b.v ∧ b.v < (askd b o f).x) := fun e => hn (.inr (.inl e))
      have h3 : noiseB b = false := by rw [← Bool.not_eq_true]; exact fun e => hn (.inr (.inr e))
      refine ⟨?_, h2, h3⟩
      split at h
      · next hw => simp [h1, hw]
      · simp [h1, h]
  · rintro ⟨h1, h2, h3⟩
    simp only [Bool.and_eq_true, Bool.not_eq_true', decide_eq_false_iff_not, Bool.or_eq_true, decide_eq_true_eq] at h1
    rw [if_neg (by rintro (h | h | h); exact h1.1 h; exact h2 h; rw [h3] at h; cases h)]
    split
    · rfl
    · next hw => exact h1.2.resolve_left hw
theorem wish_same {b0 b : Bo} {c : Nat} (h : Askd b0 b c) (o : List Bool) (f : Int) : wishB b o f = wishB b0 o f := by
  unfold wishB playB oddB; rw [h.m, h.k]
theorem dead_mono {b0 b : Bo} {c : Nat} (h : Askd b0 b c) (hd : deadB b0 = true) : deadB b = true := by
  unfold deadB at *
  have h1 := of_decide_eq_true hd
  have := h.v
  have := h.x2
  exact decide_eq_true (by omega)
/-- what holds of a box whenever it is asked -/
structure Okb (b : Bo) : Prop where
  n0 : 0 ≤ b.n
  n8 : b.n ≤ 8
  x0 : 0 ≤ b.x
  x1 : b.x ≤ b.a
theorem Okb.run {b0 b : Bo} {c : Nat} (k : Okb b0) (h : Askd b0 b c) : Okb b := ⟨by rw [h.n]; exact k.n0, by rw [h.n]; exact k.n8, h.x0, h.x1⟩
theorem Okb.refl {b : Bo} (k : Okb b) : Askd b b 0 := Askd.refl k.x0 k.x1
/-- what is open to a box does not change -/
theorem opens_same {b0 b : Bo} {c : Nat} (h : Askd b0 b c) (l : List (Int × Int)) (n : Nat) : opens b l n = opens b0 l n := by
  unfold opens; rw [h.s, h.l]
theorem opens_get {b : Bo} {l : List (Int × Int)} {i n : Nat} (hi : i < n) : (opens b l n).getD i false = opnB b.s b.l (qn l i) (qm l i) := by
  unfold opens; simp [List.getD_eq_getElem?_getD, hi]
theorem mem_opn {s : Sc} {c : List Int} {v w : Int} {u : Int} (hu : u ∈ c) (h : memB s v w u.toNat = true) : opnB s c v w = true := by
  obtain ⟨i, hi, rfl⟩ := mem_at.1 hu
  exact List.any_eq_true.2 ⟨i, List.mem_range.2 hi, h⟩
/-- the end of a trace -/
structure Fin (N : Nat) (b0 : Bo) (tot : List Int) (r : Ts × Nat) : Prop where
  e : r.2 = 1 ∨ r.2 = 2
  ask : Askd b0 r.1.b r.1.a
  part : Part b0.s tot r.1.l r.1.nm
  col : ∀ u ∈ r.1.nm, u ∈ b0.l
  shut : wishB r.1.b r.1.o 0 = false ∨ deadB r.1.b = true
  fit : r.1.a + N ≤ (2 * p2 b0.s.d.toNat + 1) * ((b0.s.d.toNat + 2) * N)
  all : b0.v = 0 → r.2 = 1 ∧ wishB r.1.b r.1.o 0 = false
end Go.Proofs.YtoegpalacppllaaGreat.Tr

/- What a box plays: as its coalition knows; what is not open does not count; noise. No program is in sight here. -/
namespace Go.Proofs.YtoegpalacppllaaGreat.Tr
open Hn

theorem askE_ok {b : Bo} {l : List (Int × Int)} {f : Int} (h : askE b l f = 0) : chkB b = 0 ∧ subsE b.s l = 0 ∧ 0 ≤ f ∧ f ≤ l.length ∧ b.a ≠ 100000 := by
  by_cases h1 : chkB b ≠ 0
  · rw [askE_b h1] at h; exact absurd h h1
  · by_cases h2 : subsE b.s l ≠ 0
    · rw [askE_s h1 h2] at h; exact absurd h h2
    · by_cases h3 : f < 0 ∨ (l.length : Int) < f
      · rw [askE_f h1 h2 h3] at h; exact absurd h (by decide)
      · by_cases h4 : b.a = 100000
        · rw [askE_a h1 h2 h3 h4] at h; exact absurd h (by decide)
        · exact ⟨Classical.not_not.1 h1, Classical.not_not.1 h2, by omega, by omega, h4⟩
/-- with no fakes each open item is right -/
theorem stp_zero (o : List Bool) : ∀ n, (stp o 0 n).2.1 = 0 ∧ ((stp o 0 n).1 = 0 ↔ ∀ i, i < n → o.getD i false = false)
  | 0 => ⟨rfl, ⟨fun _ i hi => by omega, fun _ => rfl⟩⟩
  | n + 1 => by
    obtain ⟨h1, h2⟩ := stp_zero o n
    cases h : o.getD n false with
    | false =>
      rw [stp_no h]
      refine ⟨h1, h2.trans ⟨fun k i hi => ?_, fun k i hi => k i (by omega)⟩⟩
      by_cases e : i = n
      · rw [e]; exact h
      · exact k i (by omega)
    | true =>
      rw [stp_right h (by omega)]
      refine ⟨h1, ⟨fun k => absurd k (by simp), fun k => ?_⟩⟩
      have := k n (by omega)
      rw [h] at this; cases this
def anyB (o : List Bool) (n : Nat) : Bool := (List.range n).any fun i => o.getD i false
theorem anyB_succ (o : List Bool) (n : Nat) : anyB o (n + 1) = (anyB o n || o.getD n false) := by simp [anyB, List.range_succ]
theorem anyB_iff {o : List Bool} {n : Nat} : anyB o n = false ↔ ∀ i, i < n → o.getD i false = false := by
  unfold anyB
  rw [List.any_eq_false]
  exact ⟨fun h i hi => by simpa using h i (List.mem_range.2 hi), fun h i hi => by rw [h i (List.mem_range.1 hi)]; decide⟩
theorem wish_zero (b : Bo) (o : List Bool) : wishB b o 0 = anyB o o.length := by
  obtain ⟨h1, h2⟩ := stp_zero o o.length
  unfold wishB
  rw [decide_eq_true h1, Bool.true_or, Bool.and_true]
  cases h : anyB o o.length with
  | false => rw [decide_eq_true (h2.2 (anyB_iff.1 h))]; rfl
  | true =>
    rw [decide_eq_false fun e => by rw [anyB_iff.2 (h2.1 e)] at h; cases h]; rfl
theorem askd_zero (b : Bo) (o : List Bool) : askd b o 0 = { b with a := b.a + 1 } := by
  obtain ⟨h1, -⟩ := stp_zero o o.length
  unfold askd
  rw [h1]
  exact after_n (by omega)
theorem opens_getD {b : Bo} {l : List (Int × Int)} {i : Nat} (hi : i < l.length) : (opens b l l.length).getD i false = opnB b.s b.l (qn l i) (qm l i) := opens_get hi
theorem subsE_all {s : Sc} {l : List (Int × Int)} : subsE s l = 0 ↔ l.length ≤ 64 ∧ ∀ i, i < l.length → subB s (qn l i) (qm l i) = true :=
  ⟨fun h => subsE_ok (by omega), fun h => subsE_yes (by omega) h.2⟩
/-- one query after the other -/
theorem quiet_step {b : Bo} (o : List Bool) (k : Okb b) {N : Nat} (hN : 2 * b.n + 1 = (N : Int)) : ((List.range N).any fun j => plays (asks o 0 j b) o 0) = (anyB o o.length && !decide (0 < b.v ∧ b.v < b.x)) := by
  have hx : ∀ j, (asks o 0 j b).x = b.x ∧ (asks o 0 j b).v = b.v := fun j => by
    induction j with
    | zero => exact ⟨rfl, rfl⟩
    | succ j ih => rw [asks_succ, askd_zero]; exact ih
  have hp : ∀ j, plays (asks o 0 j b) o 0 = (anyB o o.length && !decide (0 < b.v ∧ b.v < b.x) && !noiseB (asks o 0 j b)) := fun j => by
    obtain ⟨e1, e2⟩ := hx j
    rw [Bool.eq_iff_iff, plays_iff, wish_zero, askd_zero]
    simp only [e1, e2, Bool.and_eq_true, Bool.not_eq_true', decide_eq_false_iff_not, and_assoc]
  cases hK : (anyB o o.length && !decide (0 < b.v ∧ b.v < b.x)) with
  | false =>
    rw [List.any_eq_false]
    intro j _
    rw [hp j, hK, Bool.false_and]; decide
  | true =>
    have hx0 := k.x0
    have hx1 := k.x1
    obtain ⟨j, hj, hc⟩ := noise_calm k.n0 k.n8 (by omega)
    rw [List.any_eq_true]
    refine ⟨j, List.mem_range.2 (by omega), ?_⟩
    have hr := asks_run o 0 j k.refl
    have hra := hr.a
    rw [Nat.zero_add] at hra
    rw [hp j, hK, Bool.true_and, (noise_congr (c := { b with a := b.a + (j : Int) }) hr.k hr.n hra).trans hc]; rfl
end Go.Proofs.YtoegpalacppllaaGreat.Tr

/- Paths, yielded until told to stop. -/
namespace Go.Proofs.YtoegpalacppllaaGreat
open Go.RowKit Pl
open Tr Hn
set_option maxRecDepth 10000 in
/-- headend/cover.path$1 -/
theorem t_path {w : World} (y n ga_ gb_ : Nat) (h0 : 0 < y) (hy : y < 128) (hn : n ≤ lev y) : IterT Tryz.prog w 137 #[.pointer (some ⟨ga_, 0, none⟩), .pointer (some ⟨gb_, 0, none⟩)] n (fun i => #[.int .i64 ((sh y (n - (i + 1)) : Nat) : Int)]) [⟨gb_, [.int .i64 (y : Int)], 111⟩, ⟨ga_, [.int .i64 ((sh y n : Nat) : Int)], 111⟩] := by
 refine iterT_of (lb := [.pointer (some ⟨ga_, 0, none⟩), .pointer (some ⟨gb_, 0, none⟩)]) (F := fun l => [.func (.yield l) #[] #[], .pointer (some ⟨ga_, 0, none⟩), .pointer (some ⟨gb_, 0, none⟩), undef, undef, undef, undef, undef, undef, undef, undef, undef, undef, undef, undef, undef]) Tryz.func137 rfl (fun l => rfl) ?_
 intro r l cc S Lc Lx W hS hY hW
 have hM : MkOk w r r [] := MkOk.nil
 refine c_seq (c_reg ?_)
 refine l_loadC hW 1 tyC111 (v := .int .i64 ((sh y n : Nat) : Int)) rfl rfl rfl rfl rfl rfl ?_
 refine bI ?_
 refine l_end (n_then (c_block ?_))
 refine c_loop (fun (x : Nat) (j : Nat → Value) => [.func (.yield l) #[] #[], .pointer (some ⟨ga_, 0, none⟩), .pointer (some ⟨gb_, 0, none⟩), j 3, .int .i64 ((sh y (n - x) : Nat) : Int), .int .i64 ((sh y n : Nat) : Int), j 6, j 7, j 8, j 9, j 10, j 11, j 12, j 13, j 14, j 15]) (fun (x : Nat) => [] ++ ([⟨gb_, [.int .i64 (y : Int)], 111⟩, ⟨ga_, [.int .i64 ((sh y n : Nat) : Int)], 111⟩] ++ Lc x)) (fun (x : Nat) => x ≤ n ∧ ∀ j, j < x → cc j = true) (fun (x : Nat) => n - x) 0 (by kernel_rfl) hW ⟨Nat.zero_le _, fun j hj => absurd hj (Nat.not_lt_zero j)⟩ ?_
 intro x j W hx hW
 obtain ⟨hx, hcc⟩ := hx
 have hlv := sh_lev hy (i := n - x) (by omega)
 have hle := sh_le y (n - x)
 have hpos : 0 < sh y (n - x) := sh_pos h0 hy (by omega)
 refine c_seq (c_seq (c_reg ?_))
 refine aI ?_
 refine l_loadC hW 0 tyC111 (v := .int .i64 (y : Int)) rfl rfl rfl rfl rfl rfl ?_
 refine l_val (r_neqN rfl rfl rfl rfl) rfl rfl ?_
 refine l_split ?_ ?_
 ·intro hc1
  replace hc1 := of_decide_eq_true hc1
  have hlt : x < n := Nat.lt_of_le_of_ne (by omega) fun e => hc1 (by rw [e, Nat.sub_self]; rfl)
  refine l_end (n_then ?_)
  refine c_true rfl ?_
  refine c_skip (n_then (c_block (c_seq (c_reg ?_))))
  refine aI ?_
  refine l_loadC hW 0 tyC111 (v := .int .i64 (y : Int)) rfl rfl rfl rfl rfl rfl ?_
  refine l_call hW (g_ptoward (sh y (n - x)) y hpos (by omega) h0 hy (by omega)) en110 rfl rfl rfl rfl ?_
  intro W hW
  rw [show lev y - lev (sh y (n - x)) - 1 = n - (x + 1) by omega]
  refine bI ?_
  refine l_end (n_then (c_seq (c_reg ?_)))
  refine l_val (r_move (v := .func _ _ _) rfl rfl) rfl rfl ?_
  refine aI ?_
  refine l_yieldN (hY r x [] W Ext.rfl' (by omega) hcc hW) rfl rfl rfl rfl rfl ?_
  intro W hW
  refine l_split ?_ ?_
  ·intro hc2
   replace hW := hW.1 hc2
   refine l_val (r_not rfl rfl) rfl rfl ?_
   refine l_end (n_then ?_)
   refine c_false rfl ?_
   refine c_skip (n_block (n_then ?_))
   exact loop_next (x + 1) (by kernel_rfl) hW ⟨by omega, fun j hj => (Nat.lt_or_ge j x).elim (hcc j) fun h => by rw [show j = x by omega]; exact hc2⟩ (by omega)
  ·intro hc2
   replace hW := hW.2 hc2
   replace hM := hM.stp hS
   refine l_val (r_not rfl rfl) rfl rfl ?_
   refine l_end (n_then ?_)
   refine c_true rfl ?_
   refine c_ret (r_block (r_then (r_block ?_)))
   refine ret_marks hM hW fun W hW => ?_
   refine ret_none rfl ?_
   exact ⟨⟨_, rfl⟩, .inr ⟨⟨x, hlt, hc2⟩, hW⟩⟩
 ·intro hc1
  replace hc1 := of_decide_eq_false hc1
  have hxn : x = n := Classical.byContradiction fun hne => by rw [show sh y (n - x) = y by omega] at hlv; omega
  refine l_end (n_then ?_)
  refine c_false rfl ?_
  refine c_exit (x_then (x_then ?_))
  refine x_hit ?_
  refine end_marks hM hW fun W hW => ?_
  refine ret_none rfl ?_
  exact ⟨⟨_, rfl⟩, .inl ⟨fun j hj => hcc j (by omega), hxn ▸ hW⟩⟩

end Go.Proofs.YtoegpalacppllaaGreat

/- Where each label stands among a receiver's. No program is in sight here. -/
namespace Go.Proofs.YtoegpalacppllaaGreat.Tr
open Hn
/-- labels ahead of a level's -/
def cntL (s : Sc) (y i : Nat) : Nat := if s.k = 1 then i + 1 else (labs s y i).length
/-- labels ahead of a node's on a level's path -/
def cntI (s : Sc) (y i j : Nat) : Nat := (labs s y i).length + (rowL s y i (i + 1 + j)).length
/-- whether the label of a node on a level's path is one -/
def subI (s : Sc) (y x j : Nat) : Bool := subB s ((sh y (s.d.toNat - x) : Nat) : Int) ((sib (sh y (s.d.toNat - x - (j + 1))) : Nat) : Int)
def ccI (s : Sc) (y x : Nat) (cc : Nat → Bool) (j : Nat) : Bool := !subI s y x j || cc (cntI s y x j)
theorem q_at {l A t : List (Int × Int)} {a : Int × Int} (h : l = A ++ (a :: t)) : A.length < l.length ∧ qn l A.length = a.1 ∧ qm l A.length = a.2 := by
  subst h
  refine ⟨by simp, ?_, ?_⟩ <;> simp [qn, qm, List.getD_eq_getElem?_getD]
theorem labs_pre (s : Sc) (y : Nat) {i : Nat} : ∀ {n : Nat}, i ≤ n → ∃ t, labs s y n = labs s y i ++ t
  | 0, h => ⟨[], by obtain rfl : i = 0 := by omega
                    simp⟩
  | n + 1, h => by
    by_cases hi : i = n + 1
    · subst hi; exact ⟨[], by simp⟩
    · obtain ⟨t, e⟩ := labs_pre s y (i := i) (n := n) (by omega)
      exact ⟨t ++ rowL s y n (s.d.toNat + 1), by rw [labs, e, List.append_assoc]⟩
theorem lab1_pre (d y : Nat) {i : Nat} : ∀ {n : Nat}, i ≤ n → ∃ t, lab1 d y n = lab1 d y i ++ t
  | 0, h => ⟨[], by obtain rfl : i = 0 := by omega
                    simp⟩
  | n + 1, h => by
    by_cases hi : i = n + 1
    · subst hi; exact ⟨[], by simp⟩
    · obtain ⟨t, e⟩ := lab1_pre d y (i := i) (n := n) (by omega)
      exact ⟨t ++ [(((pn d y n : Nat) : Int), 0)], by rw [lab1, e, List.append_assoc]⟩
theorem rowL_pre (s : Sc) (y x : Nat) {i : Nat} : ∀ {n : Nat}, i ≤ n → ∃ t, rowL s y x n = rowL s y x i ++ t
  | 0, h => ⟨[], by obtain rfl : i = 0 := by omega
                    simp⟩
  | n + 1, h => by
    by_cases hi : i = n + 1
    · subst hi; exact ⟨[], by simp⟩
    · obtain ⟨t, e⟩ := rowL_pre s y x (i := i) (n := n) (by omega)
      exact ⟨t ++ (if x < n then labE s y x n else []), by rw [rowL, e, List.append_assoc]⟩
theorem labE_sub {s : Sc} {y x j : Nat} : labE s y x (x + 1 + j) = if subI s y x j then [(((sh y (s.d.toNat - x) : Nat) : Int), ((sib (sh y (s.d.toNat - x - (j + 1))) : Nat) : Int))] else [] := by
  have e : s.d.toNat - x - (j + 1) = s.d.toNat - (x + 1 + j) := by omega
  rw [subI, e]; rfl
theorem rowL_at (s : Sc) (y x j : Nat) : rowL s y x (x + 1 + (j + 1)) = rowL s y x (x + 1 + j) ++ labE s y x (x + 1 + j) := by
  rw [show x + 1 + (j + 1) = (x + 1 + j) + 1 by omega, rowL, if_pos (show x < x + 1 + j by omega)]
theorem lab_in {s : Sc} {y x j : Nat} {l : List (Int × Int)} (hl : l = labs s y (s.d.toNat + 1)) (hx : x + 1 + j ≤ s.d.toNat) (h : subI s y x j = true) : cntI s y x j < l.length ∧ qn l (cntI s y x j) = ((sh y (s.d.toNat - x) : Nat) : Int) ∧ qm l (cntI s y x j) = ((sib (sh y (s.d.toNat - x - (j + 1))) : Nat) : Int) ∧ cntI s y x (j + 1) = cntI s y x j + 1 := by
  have e1 := labE_sub (s := s) (y := y) (x := x) (j := j)
  rw [if_pos h] at e1
  obtain ⟨t1, h1⟩ := rowL_pre s y x (i := x + 1 + (j + 1)) (n := s.d.toNat + 1) (by omega)
  obtain ⟨t2, h2⟩ := labs_pre s y (i := x + 1) (n := s.d.toNat + 1) (by omega)
  have e2 := rowL_at s y x j
  rw [e1] at e2
  have q := q_at (l := l) (A := labs s y x ++ rowL s y x (x + 1 + j)) (a := (((sh y (s.d.toNat - x) : Nat) : Int), ((sib (sh y (s.d.toNat - x - (j + 1))) : Nat) : Int))) (t := t1 ++ t2) (by rw [hl, h2, labs, h1, e2]; simp)
  have ec : (labs s y x ++ rowL s y x (x + 1 + j)).length = cntI s y x j := by rw [List.length_append]; rfl
  rw [ec] at q
  refine ⟨q.1, q.2.1, q.2.2, ?_⟩
  rw [cntI, e2, List.length_append, cntI]; simp; omega
theorem lab_out {s : Sc} {y x j : Nat} (h : subI s y x j = false) : cntI s y x (j + 1) = cntI s y x j := by
  rw [cntI, rowL_at, labE_sub, if_neg (by rw [h]; decide), List.append_nil]; rfl
theorem cntI_zero (s : Sc) (y x : Nat) : cntI s y x 0 = (labs s y x).length := by rw [cntI, rowL_none s y x (by omega)]; rfl
theorem cntI_end {s : Sc} {y x : Nat} (hx : x ≤ s.d.toNat) : cntI s y x (s.d.toNat - x) = (labs s y (x + 1)).length := by
  rw [cntI, labs, List.length_append, show x + 1 + (s.d.toNat - x) = s.d.toNat + 1 by omega]
theorem cntL_zero (s : Sc) (y : Nat) : cntL s y 0 = 1 := by unfold cntL; split <;> rfl
theorem cntL_one {s : Sc} (y x : Nat) (h : s.k = 1) : cntL s y x = x + 1 := if_pos h
theorem cntL_two {s : Sc} (y x : Nat) (h : s.k ≠ 1) : cntL s y x = (labs s y x).length := if_neg h
theorem labN_of {s : Sc} {u y : Nat} (hy : y = p2 s.d.toNat + u) : labN s u = if s.k = 1 then lab1 s.d.toNat y (s.d.toNat + 1) else labs s y (s.d.toNat + 1) := by rw [hy]; rfl
theorem cntL_end {s : Sc} {u y : Nat} (hy : y = p2 s.d.toNat + u) : cntL s y s.d.toNat = (labN s u).length := by
  rw [labN_of hy]
  by_cases h : s.k = 1
  · rw [cntL_one _ _ h, if_pos h, lab1_len]
  · rw [cntL_two _ _ h, if_neg h, labs, List.length_append, rowL_none s y s.d.toNat (by omega)]; rfl
theorem lab_one {s : Sc} {y x : Nat} {l : List (Int × Int)} (hl : l = lab1 s.d.toNat y (s.d.toNat + 1)) (hx : x < s.d.toNat) : x + 1 < l.length ∧ qn l (x + 1) = ((sh y (s.d.toNat - (x + 1)) : Nat) : Int) ∧ qm l (x + 1) = 0 := by
  obtain ⟨t, h⟩ := lab1_pre s.d.toNat y (i := x + 1 + 1) (n := s.d.toNat + 1) (by omega)
  have q := q_at (l := l) (A := lab1 s.d.toNat y (x + 1)) (a := (((pn s.d.toNat y (x + 1) : Nat) : Int), 0)) (t := t) (by rw [hl, h, lab1]; simp)
  rw [lab1_len] at q
  exact q
theorem root_sh {y d : Nat} (h0 : 0 < y) (hy : y < 128) (hl : lev y = d) : sh y d = 1 := by
  have h1 := sh_lev hy (i := d) (by omega)
  have h2 : 0 < sh y d := sh_pos h0 hy (by omega)
  rw [hl, Nat.sub_self, lev] at h1
  have h3 := (Nat.log2_lt (n := sh y d) (k := 1) (by omega)).1 (by omega)
  omega
theorem lab_zero {s : Sc} {u y : Nat} (hy : y = p2 s.d.toNat + u) (h1 : sh y s.d.toNat = 1) : qn (labN s u) 0 = 1 ∧ qm (labN s u) 0 = 0 := by
  rw [labN_of hy]
  by_cases h : s.k = 1
  · rw [if_pos h]
    obtain ⟨t, e⟩ := lab1_pre s.d.toNat y (i := 1) (n := s.d.toNat + 1) (by omega)
    have q := q_at (l := lab1 s.d.toNat y (s.d.toNat + 1)) (A := []) (a := (((pn s.d.toNat y 0 : Nat) : Int), 0)) (t := t) (by rw [e]; rfl)
    refine ⟨q.2.1.trans ?_, q.2.2⟩
    show ((sh y s.d.toNat : Nat) : Int) = 1
    rw [h1]; rfl
  · rw [if_neg h]
    obtain ⟨t, e⟩ := labs_pre s y (i := 0) (n := s.d.toNat + 1) (by omega)
    have q := q_at (l := labs s y (s.d.toNat + 1)) (A := []) (a := (1, 0)) (t := t) (by rw [e]; rfl)
    exact q.2
theorem cc_run {s : Sc} {y x : Nat} {cc : Nat → Bool} (h0 : ∀ j, j < (labs s y x).length → cc j = true) : ∀ i, (∀ j, j < i → ccI s y x cc j = true) → ∀ j, j < cntI s y x i → cc j = true
  | 0, _, j, hj => h0 j (by rwa [cntI_zero] at hj)
  | i + 1, h, j, hj => by
    have ih := cc_run h0 i (fun j hj => h j (by omega))
    have hi := h i (by omega)
    cases hs : subI s y x i with
    | false => rw [lab_out hs] at hj; exact ih j hj
    | true =>
      have e : cntI s y x (i + 1) = cntI s y x i + 1 := by
        rw [cntI, rowL_at, labE_sub, if_pos hs, List.length_append, cntI]; simp; omega
      rw [e] at hj
      rw [ccI, hs] at hi
      by_cases hj' : j = cntI s y x i
      · subst hj'; simpa using hi
      · exact ih j (by omega)
theorem cc_stop {s : Sc} {y x j : Nat} {cc : Nat → Bool} (h : ccI s y x cc j = false) : subI s y x j = true ∧ cc (cntI s y x j) = false := by
  rw [ccI, Bool.or_eq_false_iff] at h
  exact ⟨by simpa using h.1, h.2⟩
/-- no label leads to it: no member -/
theorem kmem_no {s : Sc} {v w : Int} {u : Nat} (hs : schB s = true) (hx : subB s v w = true) (hu : u < p2 s.d.toNat) (h : ∀ j, j < (labN s u).length → (!leadB s (qn (labN s u) j) (qm (labN s u) j) v w) = true) : memB s v w u = false := by
  have e := known_no (s := s) (ls := labN s u) (v := v) (w := w) fun k hk => by simpa using h k hk
  have := known_mem hs hx hu
  rw [e] at this
  rw [← Bool.not_eq_true]
  exact fun hm => by have := this.2 hm; omega
theorem kmem_yes {s : Sc} {v w : Int} {u : Nat} (hs : schB s = true) (hx : subB s v w = true) (hu : u < p2 s.d.toNat) (h : ∃ j, j < (labN s u).length ∧ (!leadB s (qn (labN s u) j) (qm (labN s u) j) v w) = false) : memB s v w u = true := by
  obtain ⟨j, hj, h⟩ := h
  exact (known_mem hs hx hu).1 (known_iff.2 ⟨_, q_mem.2 ⟨j, hj, rfl⟩, by simpa using h⟩)
/-- what is said of a subset: whether some of a list are members, and the error -/
def knE (s : Sc) (l : List Int) (v w : Int) : Int := if schB s = false then 30 else if usersB l ((p2 s.d.toNat : Nat) : Int) = false then 2 else if subB s v w = false then 31 else 0
def knB (s : Sc) (l : List Int) (v w : Int) : Bool := decide (knE s l v w = 0) && opnB s l v w
theorem knE_s {s : Sc} {l : List Int} {v w : Int} (h : schB s = false) : knE s l v w = 30 := if_pos h
theorem knE_l {s : Sc} {l : List Int} {v w : Int} (h : schB s = true) (h2 : usersB l ((p2 s.d.toNat : Nat) : Int) = false) : knE s l v w = 2 := by rw [knE, if_neg (by rw [h]; decide), if_pos h2]
theorem knE_x {s : Sc} {l : List Int} {v w : Int} (h : schB s = true) (h2 : usersB l ((p2 s.d.toNat : Nat) : Int) = true) (h3 : subB s v w = false) : knE s l v w = 31 := by rw [knE, if_neg (by rw [h]; decide), if_neg (by rw [h2]; decide), if_pos h3]
theorem knE_0 {s : Sc} {l : List Int} {v w : Int} (h : schB s = true) (h2 : usersB l ((p2 s.d.toNat : Nat) : Int) = true) (h3 : subB s v w = true) : knE s l v w = 0 := by rw [knE, if_neg (by rw [h]; decide), if_neg (by rw [h2]; decide), if_neg (by rw [h3]; decide)]
theorem knB_no {s : Sc} {l : List Int} {v w : Int} (h : knE s l v w ≠ 0) : knB s l v w = false := by rw [knB, decide_eq_false h]; rfl
theorem knB_yes {s : Sc} {l : List Int} {v w : Int} (h : knE s l v w = 0) : knB s l v w = opnB s l v w := by rw [knB, decide_eq_true h]; rfl
end Go.Proofs.YtoegpalacppllaaGreat.Tr

/- Labels, yielded until told to stop. -/
namespace Go.Proofs.YtoegpalacppllaaGreat
open Go.RowKit Pl
open Tr Hn
/-- one step down -/
theorem g_down (y d x : Nat) (h0 : 0 < y) (hy : y < 128) (hl : lev y = d) (hx : x < d) : Gives Tryz.prog 110 [.int .i64 ((sh y (d - x) : Nat) : Int), .int .i64 (y : Int)].toArray (.int .i64 ((sh y (d - (x + 1)) : Nat) : Int)) := by
 have h1 := sh_lev hy (i := d - x) (by omega)
 have h2 := sh_le y (d - x)
 have h := g_ptoward (sh y (d - x)) y (sh_pos h0 hy (by omega)) (by omega) h0 hy (by omega)
 rwa [show lev y - lev (sh y (d - x)) - 1 = d - (x + 1) by omega] at h
set_option maxRecDepth 10000 in
/-- (headend/cover.tree).labels$1 -/
theorem t_labels {w : World} (s : Sc) (u ga_ gb_ : Nat) (hs : schB s = true) (hu : u < p2 s.d.toNat) : IterT Tryz.prog w 109 #[.pointer (some ⟨ga_, 0, none⟩), .pointer (some ⟨gb_, 0, none⟩)] (labN s u).length (fun i => #[.int .i64 (qn (labN s u) i), .int .i64 (qm (labN s u) i)]) [⟨gb_, [.int .i64 (u : Int)], 3⟩, ⟨ga_, [.int .u8 s.k, .int .i64 s.d, .int .i64 (strideN s.d : Int)], 106⟩] := by
 refine iterT_of (lb := [.pointer (some ⟨ga_, 0, none⟩), .pointer (some ⟨gb_, 0, none⟩)]) (F := fun l => [.func (.yield l) #[] #[], .pointer (some ⟨ga_, 0, none⟩), .pointer (some ⟨gb_, 0, none⟩), undef, undef, undef, undef, undef, undef, undef, undef, undef, undef, undef, undef, undef, undef, undef, undef, undef, undef, undef, undef, undef, undef, undef, undef, undef, undef, undef, undef, undef, undef, undef, undef, undef, undef, undef, undef, undef, undef, undef, undef, undef, undef, undef, undef, undef]) Tryz.func109 rfl (fun l => rfl) ?_
 intro r l cc S Lc Lx W hS hY hW
 have hM : MkOk w r r [] := MkOk.nil
 obtain ⟨k1, k3, d0, d6, -⟩ := schB_iff.1 hs
 have hp := p2_le (n := s.d.toNat) (by omega)
 have hp0 := p2_pos s.d.toNat
 obtain ⟨y, hyu⟩ : ∃ y, y = p2 s.d.toNat + u := ⟨_, rfl⟩
 have hly : lev y = s.d.toNat := by rw [hyu]; exact leaf_lev hu
 have hy0 : 0 < y := by omega
 have hy2 : y < 128 := by omega
 have hrt := root_sh hy0 hy2 hly
 have hz := lab_zero hyu hrt
 refine c_seq (c_reg ?_)
 refine l_boxC hW (v := .func _ _ _) rfl rfl rfl rfl rfl ?_
 intro g1 W hW
 refine l_end (n_then (c_seq (c_reg ?_)))
 refine dA hW 2 tyA106 ?_
 refine dC hW 1 tyC3 ?_
 refine l_call hW (g_pleaf s u (by omega) (by omega) (by omega)) en53 rfl rfl rfl rfl ?_
 intro W hW
 rw [← hyu]
 refine bI ?_
 refine l_end (n_then (c_seq (c_seq (c_reg ?_))))
 refine dC hW 0 tyC186 ?_
 refine l_yieldN (args := [.int .i64 (qn (labN s u) (0)), .int .i64 (qm (labN s u) (0))]) (hY r 0 _ W Ext.rfl' (lab_pos s u) (fun j hj => absurd hj (Nat.not_lt_zero j)) (show Cl _ ([_] ++ (_ ++ Lc 0)) _ from hW)) rfl rfl rfl (by rw [hz.1, hz.2]; rfl) rfl ?_
 intro W hW
 refine l_split ?_ ?_
 ·intro hc1
  replace hW := hW.1 hc1
  refine l_val (r_not rfl rfl) rfl rfl ?_
  refine l_end (n_then ?_)
  refine c_false rfl ?_
  refine c_skip (n_then (c_seq (c_reg ?_)))
  refine l_allocC hW tyZ111 rfl rfl rfl rfl ?_
  intro g2 W hW
  refine l_storeC hW 0 tyC111 (v := .int _ _) rfl rfl rfl rfl rfl rfl (by first | rfl | omega | (simp; done) | (simp; omega)) rfl ?_
  intro W hW
  refine l_end (n_then (c_block ?_))
  refine c_loopD (fun (x : Nat × Nat) (j : Nat → Value) => [.func (.yield l) #[] #[], .pointer (some ⟨ga_, 0, none⟩), .pointer (some ⟨gb_, 0, none⟩), .pointer (some ⟨g1, 0, none⟩), .int .i64 (y : Int), .pointer (some ⟨x.2, 0, none⟩), j 6, j 7, .agg ([.int .u8 s.k, .int .i64 s.d, .int .i64 (strideN s.d : Int)]).toArray, .int .i64 (u : Int), .int .i64 (y : Int), .func (.yield l) #[] #[], .bool true, .bool false, j 14, j 15, j 16, j 17, j 18, j 19, j 20, j 21, j 22, j 23, j 24, j 25, j 26, j 27, j 28, j 29, j 30, j 31, j 32, j 33, j 34, j 35, j 36, j 37, j 38, j 39, j 40, j 41, j 42, j 43, j 44, j 45, j 46, j 47]) (fun (x : Nat × Nat) => [⟨x.2, [.int .i64 ((sh y (s.d.toNat - x.1) : Nat) : Int)], 111⟩, ⟨g1, [.func (.yield l) #[] #[]], 186⟩] ++ ([⟨gb_, [.int .i64 (u : Int)], 3⟩, ⟨ga_, [.int .u8 s.k, .int .i64 s.d, .int .i64 (strideN s.d : Int)], 106⟩] ++ Lc (cntL s y x.1))) (fun (x : Nat × Nat) => x.1 ≤ s.d.toNat ∧ ∀ j, j < cntL s y x.1 → cc j = true) (fun (x : Nat × Nat) => s.d.toNat - x.1) (0, g2) (by kernel_rfl) hM (hW.to (by show [_, _] ++ (_ ++ Lc (0 + 1)) = [⟨_, [.int .i64 ((sh y (s.d.toNat - 0) : Nat) : Int)], _⟩, _] ++ (_ ++ Lc (cntL s y 0)); rw [Nat.sub_zero, hrt, cntL_zero]; rfl)) ⟨Nat.zero_le _, fun j hj => by rw [cntL_zero] at hj; rw [show j = 0 by omega]; exact hc1⟩ ?_
  intro x j r1 ds W hx hM hW
  obtain ⟨hx, hcc⟩ := hx
  have hlv := sh_lev hy2 (i := s.d.toNat - x.1) (by omega)
  have hle := sh_le y (s.d.toNat - x.1)
  have hpos : 0 < sh y (s.d.toNat - x.1) := sh_pos hy0 hy2 (by omega)
  refine c_seq (c_seq (c_reg ?_))
  refine dC hW 0 tyC111 ?_
  refine aI ?_
  refine l_val (r_neqN rfl rfl rfl rfl) rfl rfl ?_
  refine l_split ?_ ?_
  ·intro hc2
   replace hc2 := of_decide_eq_true hc2
   have hlt : x.1 < s.d.toNat := Nat.lt_of_le_of_ne (by omega) fun e => hc2 (by rw [e, Nat.sub_self]; rfl)
   refine l_end (n_then ?_)
   refine c_true rfl ?_
   refine c_skip (n_then (c_seq (c_block (c_seq (c_seq (c_reg ?_))))))
   refine l_val (r_fieldAddr 0 Tryz.underlying106 rfl tyC5.size rfl rfl rfl) rfl rfl ?_
   refine dC hW 3 tyC5 ?_
   refine l_val (r_eql rfl rfl rfl rfl) rfl rfl ?_
   refine l_split ?_ ?_
   ·intro hc3
    replace hc3 := of_decide_eq_true hc3
    have hk : s.k = 1 := hc3
    obtain ⟨q1, q2, q3⟩ := lab_one ((labN_of hyu).trans (if_pos hk)) hlt
    replace hW := show Cl _ ([_, _] ++ (_ ++ Lc (cntL s y x.1))) _ from hW
    rw [cntL_one y x.1 hk] at hW hcc
    refine l_end (n_then ?_)
    refine c_true rfl ?_
    refine c_seq (c_seq ?_)
    refine c_regM hW [] [.q, .q, .q, .q, .tail, .tail] [] [] [] [0, 0, 0, 6, 15, 31] (by kernel_rfl) (by kernel_rfl) rfl (by kernel_rfl) ?_
    refine y_loadC 1 tyC186 rfl rfl rfl rfl rfl rfl (by decide) ?_
    refine y_loadC 0 tyC111 rfl rfl rfl rfl rfl rfl (by decide) ?_
    refine yI ?_
    refine y_call (g_down y s.d.toNat x.1 hy0 hy2 hly hlt) en110 rfl rfl rfl rfl ?_
    refine y_tail ?_
    intro W hW
    refine l_yieldN (args := [.int .i64 (qn (labN s u) (x.1 + 1)), .int .i64 (qm (labN s u) (x.1 + 1))]) (hY r1 (x.1 + 1) _ W hM.1 q1 hcc (show Cl _ ([_, _] ++ (_ ++ Lc (x.1 + 1))) _ from hW)) rfl rfl rfl (by rw [q2, q3]; rfl) rfl ?_
    intro W hW
    refine l_split ?_ ?_
    ·intro hc4
     replace hW := hW.1 hc4
     refine l_val (r_not rfl rfl) rfl rfl ?_
     refine l_end (n_then ?_)
     refine c_false rfl ?_
     refine c_skip (n_then (c_exit (x_then ?_)))
     refine x_hit ?_
     refine n_then (c_seq (c_seq (c_reg ?_)))
     refine dC hW 0 tyC111 ?_
     refine l_end (n_then (c_reg ?_))
     refine l_allocC hW tyZ111 rfl rfl rfl rfl ?_
     intro g3 W hW
     refine l_storeC hW 0 tyC111 (v := .int _ _) rfl rfl rfl rfl rfl rfl (by first | rfl | omega | (simp; done) | (simp; omega)) rfl ?_
     intro W hW
     refine l_end (n_then (c_reg ?_))
     refine dC hW 0 tyC111 ?_
     refine aI ?_
     refine l_call hW (g_down y s.d.toNat x.1 hy0 hy2 hly hlt) en110 rfl rfl rfl rfl ?_
     intro W hW
     refine l_storeC hW 0 tyC111 (v := .int _ _) rfl rfl rfl rfl rfl rfl (by first | rfl | omega | (simp; done) | (simp; omega)) rfl ?_
     intro W hW
     refine l_end (n_then ?_)
     exact loop_nextD (x.1 + 1, g3) (by kernel_rfl) hM ((hW.sub (.cons_cons _ (.cons _ (List.Sublist.refl _)))).to (by show _ = [_, _] ++ (_ ++ Lc (cntL s y (x.1 + 1))); rw [cntL_one y _ hk]; rfl)) ⟨by simp only; omega, fun j hj => (Nat.lt_or_ge j (x.1 + 1)).elim (hcc j) fun h => by rw [cntL_one y _ hk] at hj; simp only at hj; rw [show j = x.1 + 1 by omega]; exact hc4⟩ (by simp only; omega)
    ·intro hc4
     replace hW := hW.2 hc4
     replace hM := hM.stp hS
     refine l_val (r_not rfl rfl) rfl rfl ?_
     refine l_end (n_then ?_)
     refine c_true rfl ?_
     refine c_ret (r_then (r_then (r_block (r_then (r_then (r_block ?_))))))
     refine ret_marks hM hW fun W hW => ?_
     refine ret_none rfl ?_
     exact ⟨⟨_, rfl⟩, .inr ⟨⟨x.1 + 1, q1, hc4⟩, hW.drop 2⟩⟩
   ·intro hc3
    replace hc3 := of_decide_eq_false hc3
    have hk : s.k ≠ 1 := hc3
    have hlab := (labN_of hyu).trans (if_neg hk)
    have hcc1 : ∀ j, j < (labs s y x.1).length → cc j = true := fun j hj => hcc j (by rw [cntL_two y x.1 hk]; exact hj)
    refine l_end (n_then ?_)
    refine c_false rfl ?_
    refine c_skip (n_then (c_seq (c_reg ?_)))
    refine dC hW 0 tyC111 ?_
    refine aI ?_
    refine l_callX hW (g_ppath (sh y (s.d.toNat - x.1)) y) en101 trivial rfl rfl rfl rfl ?_
    rintro _ Bs1 W ⟨ga1, gb1, rfl, rfl⟩ hW
    replace hW := hW.perm List.perm_append_comm
    refine l_end (n_then (c_block ?_))
    refine c_rangeT (t_path y (s.d.toNat - x.1) ga1 gb1 hy0 hy2 (by omega)) en137 rfl (fun _ => rfl) hM hS (ccI s y x.1 cc) (fun j => [⟨x.2, [.int .i64 ((sh y (s.d.toNat - x.1) : Nat) : Int)], 111⟩, ⟨g1, [.func (.yield l) #[] #[]], 186⟩] ++ ([⟨gb_, [.int .i64 (u : Int)], 3⟩, ⟨ga_, [.int .u8 s.k, .int .i64 s.d, .int .i64 (strideN s.d : Int)], 106⟩] ++ Lc (cntI s y x.1 j))) ([⟨x.2, [.int .i64 ((sh y (s.d.toNat - x.1) : Nat) : Int)], 111⟩, ⟨g1, [.func (.yield l) #[] #[]], 186⟩] ++ ([⟨gb_, [.int .i64 (u : Int)], 3⟩, ⟨ga_, [.int .u8 s.k, .int .i64 s.d, .int .i64 (strideN s.d : Int)], 106⟩] ++ Lx)) (hW.to (by show _ = _ ++ (_ ++ (_ ++ Lc (cntI s y x.1 0))); rw [cntI_zero, ← cntL_two y x.1 hk])) (fun (i : Nat) => fr [.func (.yield l) #[] #[], .pointer (some ⟨ga_, 0, none⟩), .pointer (some ⟨gb_, 0, none⟩), .pointer (some ⟨g1, 0, none⟩), .int .i64 (y : Int), .pointer (some ⟨x.2, 0, none⟩), .int .i64 ((sh y (s.d.toNat - x.1 - (i + 1)) : Nat) : Int), j 7, .agg ([.int .u8 s.k, .int .i64 s.d, .int .i64 (strideN s.d : Int)]).toArray, .int .i64 (u : Int), .int .i64 (y : Int), .func (.yield l) #[] #[], .bool true, .bool false, .int .i64 ((sh y (s.d.toNat - x.1) : Nat) : Int), .int .i64 (y : Int), .bool true, j 17, j 18, j 19, .pointer (some ⟨ga_, 0, none⟩), .int .u8 s.k, .bool false, j 23, j 24, j 25, j 26, j 27, j 28, .int .i64 ((sh y (s.d.toNat - x.1) : Nat) : Int), .int .i64 (y : Int), .func (.func 137) #[] #[.pointer (some ⟨ga1, 0, none⟩), .pointer (some ⟨gb1, 0, none⟩)], .int .i64 ((sh y (s.d.toNat - x.1 - (i + 1)) : Nat) : Int), j 33, j 34, j 35, j 36, j 37, j 38, j 39, j 40, j 41, j 42, j 43, j 44, j 45, j 46, j 47] [] []) (fun (i : Nat) => [.func (.yield l) #[] #[], .pointer (some ⟨ga_, 0, none⟩), .pointer (some ⟨gb_, 0, none⟩), .pointer (some ⟨g1, 0, none⟩), .int .i64 (y : Int), .pointer (some ⟨x.2, 0, none⟩), j 6, j 7, .agg ([.int .u8 s.k, .int .i64 s.d, .int .i64 (strideN s.d : Int)]).toArray, .int .i64 (u : Int), .int .i64 (y : Int), .func (.yield l) #[] #[], .bool true, .bool false, .int .i64 ((sh y (s.d.toNat - x.1) : Nat) : Int), .int .i64 (y : Int), .bool true, j 17, j 18, j 19, .pointer (some ⟨ga_, 0, none⟩), .int .u8 s.k, .bool false, j 23, j 24, j 25, j 26, j 27, j 28, .int .i64 ((sh y (s.d.toNat - x.1) : Nat) : Int), .int .i64 (y : Int), .func (.func 137) #[] #[.pointer (some ⟨ga1, 0, none⟩), .pointer (some ⟨gb1, 0, none⟩)], .int .i64 ((sh y (s.d.toNat - x.1 - (i + 1)) : Nat) : Int), j 33, j 34, j 35, j 36, j 37, j 38, j 39, j 40, j 41, j 42, j 43, j 44, j 45, j 46, j 47]) (fun _ => by kernel_rfl) ?_ ?_ ?_ ?_
    ·intro l i W
     refine c_reg ?_
     refine bI ?_
     refine l_end ?_
     refine n_then ⟨?_, rfl⟩
     exact congrArg (fun x => (fr x [] [] : Act)) (by kernel_rfl)
    ·intro lq rq i L W he hi hc hW
     have hle1 := sh_le y (s.d.toNat - x.1 - (i + 1))
     refine c_block (c_seq (c_reg ?_))
     refine aI ?_
     refine l_call hW (g_psibling _ (by omega)) en55 rfl rfl rfl rfl ?_
     intro W hW
     refine bI ?_
     refine l_end (n_then (c_seq (c_reg ?_)))
     refine dA hW 5 tyA106 ?_
     refine dC hW 2 tyC111 ?_
     refine aI ?_
     refine l_val (r_build (ps := [(0, .int _ _), (1, .int _ _)]) (bld64_0_1 _ _) rfl rfl) rfl rfl ?_
     refine l_call hW (g_psubset s _ _ d0 d6) en71 rfl rfl rfl rfl ?_
     intro W hW
     refine l_split ?_ ?_
     ·intro hc5
      have hs1 : subI s y x.1 i = true := hc5
      obtain ⟨q1, q2, q3, q4⟩ := lab_in hlab (by omega) hs1
      refine aB ?_
      refine dG hW 3 tyC186 ?_
      refine dG hW 2 tyC111 ?_
      refine gI ?_
      refine l_yieldN (args := [.int .i64 (qn (labN s u) (cntI s y x.1 i)), .int .i64 (qm (labN s u) (cntI s y x.1 i))]) (hY rq (cntI s y x.1 i) _ W (hM.1.trans he) q1 (cc_run hcc1 i hc) ((show Cl _ ((_ ++ (_ ++ _)) ++ _) _ from hW).perm perm_in)) (by kernel_rfl) rfl rfl (by rw [q2, q3]; rfl) rfl ?_
      intro W hW
      refine l_split ?_ ?_
      ·intro hc6
       replace hW := hW.1 hc6
       refine l_valG (r_not rfl rfl) (by kernel_rfl) rfl ?_
       refine kB ?_
       refine l_end (n_then ?_)
       refine c_false rfl ?_
       refine c_skip (n_block ?_)
       exact .inl ⟨by rw [ccI, hs1, hc6]; rfl, rfl, ((show Cl _ ((_ ++ (_ ++ _)) ++ _) _ from hW).perm perm_in.symm).to (by show _ = (_ ++ (_ ++ (_ ++ Lc (cntI s y x.1 (i + 1))))) ++ _; rw [q4])⟩
      ·intro hc6
       replace hW := hW.2 hc6
       refine l_valG (r_not rfl rfl) (by kernel_rfl) rfl ?_
       refine kB ?_
       refine l_end (n_then ?_)
       refine c_true rfl ?_
       refine c_ret (r_block ?_)
       exact .inr ⟨by rw [ccI, hs1, hc6]; rfl, rfl, (show Cl _ ((_ ++ (_ ++ _)) ++ _) _ from hW).perm perm_in.symm⟩
     ·intro hc5
      have hs1 : subI s y x.1 i = false := hc5
      refine aB ?_
      refine lN ?_
      refine lN ?_
      refine lN ?_
      refine lN ?_
      refine lN ?_
      refine kB ?_
      refine l_end (n_then ?_)
      refine c_false rfl ?_
      refine c_skip (n_block ?_)
      exact .inl ⟨by rw [ccI, hs1]; rfl, rfl, hW.to (by show _ = (_ ++ (_ ++ (_ ++ Lc (cntI s y x.1 (i + 1))))) ++ _; rw [lab_out hs1])⟩
    ·intro ds rq W hc hM he hW
     have e9 : cntI s y x.1 (s.d.toNat - x.1) = cntL s y (x.1 + 1) := by rw [cntI_end (by omega), cntL_two y _ hk]
     have hcc3 := cc_run hcc1 _ hc
     replace hW := show Cl _ (_ ++ (_ ++ (_ ++ Lc (cntI s y x.1 (s.d.toNat - x.1))))) _ from hW
     rw [e9] at hW hcc3
     refine n_block (n_block (n_then (c_seq (c_seq (c_reg ?_)))))
     refine dC hW 2 tyC111 ?_
     refine l_end (n_then (c_reg ?_))
     refine l_allocC hW tyZ111 rfl rfl rfl rfl ?_
     intro g4 W hW
     refine l_storeC hW 0 tyC111 (v := .int _ _) rfl rfl rfl rfl rfl rfl (by first | rfl | omega | (simp; done) | (simp; omega)) rfl ?_
     intro W hW
     refine l_end (n_then (c_reg ?_))
     refine dC hW 0 tyC111 ?_
     refine aI ?_
     refine l_call hW (g_down y s.d.toNat x.1 hy0 hy2 hly hlt) en110 rfl rfl rfl rfl ?_
     intro W hW
     refine l_storeC hW 0 tyC111 (v := .int _ _) rfl rfl rfl rfl rfl rfl (by first | rfl | omega | (simp; done) | (simp; omega)) rfl ?_
     intro W hW
     refine l_end (n_then ?_)
     exact loop_nextD (x.1 + 1, g4) (by kernel_rfl) hM (hW.sub (.cons_cons _ (.cons _ (.cons _ (.cons _ (List.Sublist.refl _)))))) ⟨by simp only; omega, fun j hj => hcc3 j hj⟩ (by simp only; omega)
    ·intro ds rq W hc hM hW
     refine r_block (r_block (r_then (r_then (r_block ?_))))
     refine ret_marks hM hW fun W hW => ?_
     refine ret_none rfl ?_
     obtain ⟨j, hj, hc⟩ := hc
     obtain ⟨hs1, hc1⟩ := cc_stop hc
     exact ⟨⟨_, rfl⟩, .inr ⟨⟨_, (lab_in hlab (by omega) hs1).1, hc1⟩, hW.drop 4⟩⟩
  ·intro hc2
   replace hc2 := of_decide_eq_false hc2
   have hxn : x.1 = s.d.toNat := Classical.byContradiction fun hne => by rw [show sh y (s.d.toNat - x.1) = y by omega] at hlv; omega
   refine l_end (n_then ?_)
   refine c_false rfl ?_
   refine c_exit (x_then (x_then ?_))
   refine x_hit ?_
   refine end_marks hM hW fun W hW => ?_
   refine ret_none rfl ?_
   have e9 : cntL s y x.1 = (labN s u).length := by rw [hxn, cntL_end hyu]
   exact ⟨⟨_, rfl⟩, .inl ⟨fun j hj => hcc j (by rw [e9]; exact hj), (hW.drop 2).to (by rw [← e9]; rfl)⟩⟩
 ·intro hc1
  replace hW := hW.2 hc1
  replace hM := hM.stp hS
  refine l_val (r_not rfl rfl) rfl rfl ?_
  refine l_end (n_then ?_)
  refine c_true rfl ?_
  refine c_ret (r_then ?_)
  refine ret_marks hM hW fun W hW => ?_
  refine ret_none rfl ?_
  exact ⟨⟨_, rfl⟩, .inr ⟨⟨0, lab_pos s u, hc1⟩, hW.drop 1⟩⟩

end Go.Proofs.YtoegpalacppllaaGreat

/- Whether a receiver has a label that leads to a subset. -/
namespace Go.Proofs.YtoegpalacppllaaGreat
open Go.RowKit Pl
open Tr Hn
set_option maxRecDepth 10000 in
/-- (headend/cover.tree).labels -/
theorem g_plabels (s : Sc) (u : Nat) : GivesX Tryz.prog 64 [.agg [.int .u8 s.k, .int .i64 s.d, .int .i64 (strideN s.d : Int)].toArray, .int .i64 (u : Int)].toArray (fun _ => True) (fun v Bs => ∃ g1 g2, v = .func (.func 109) #[] #[.pointer (some ⟨g1, 0, none⟩), .pointer (some ⟨g2, 0, none⟩)] ∧ Bs = [⟨g2, [.int .i64 (u : Int)], 3⟩, ⟨g1, [.int .u8 s.k, .int .i64 s.d, .int .i64 (strideN s.d : Int)], 106⟩]) := by
 refine givesX_of Tryz.func64 rfl (bs := [.agg [.int .u8 s.k, .int .i64 s.d, .int .i64 (strideN s.d : Int)].toArray, .int .i64 (u : Int), undef, undef, undef, undef]) rfl ?_
 intro w hP hW
 refine c_seq (c_reg ?_)
 refine xB hW ?_
 intro g1 W hW
 refine l_boxC hW (v := .int _ _) rfl rfl rfl rfl rfl ?_
 intro g2 W hW
 refine l_val (r_assign (v := .nilFunc) rfl rfl) rfl rfl ?_
 refine l_end (n_then (c_seq (c_reg ?_)))
 refine l_val (r_closure (vs := [.pointer (some ⟨g1, 0, none⟩), .pointer (some ⟨g2, 0, none⟩)]) rfl rfl) rfl rfl ?_
 refine l_val (r_assign (v := .func _ _ _) rfl rfl) rfl rfl ?_
 refine l_end (n_then (c_ret ?_))
 refine ret_tmp (v := .func _ _ _) rfl rfl ?_
 exact ⟨_, _, rfl, ⟨_, _, rfl, rfl⟩, hW⟩

set_option maxRecDepth 10000 in
/-- (headend/cover.node).below -/
theorem g_pbelowL (y v : Int) (hy : y < 1) : Gives Tryz.prog 114 [.int .i64 y, .int .i64 v].toArray (.bool false) := by
 refine gives_of Tryz.func114 rfl (bs := [.int .i64 y, .int .i64 v, undef, undef, undef, undef, undef, undef, undef, undef, undef, undef, undef, undef, undef, undef, undef, undef, undef, undef, undef, undef, undef, undef, undef, undef, undef]) rfl ?_
 intro w hW
 refine c_seq (c_reg ?_)
 refine bB ?_
 refine l_end (n_then (c_seq (c_seq (c_reg ?_))))
 refine aI ?_
 refine l_val (r_lss rfl rfl rfl rfl) rfl rfl ?_
 refine l_split ?_ ?_
 ·intro hc1
  replace hc1 := of_decide_eq_true hc1
  refine aB ?_
  refine lN ?_
  refine lN ?_
  refine kB ?_
  refine aB ?_
  refine lN ?_
  refine lN ?_
  refine lN ?_
  refine lN ?_
  refine lN ?_
  refine kB ?_
  refine l_end (n_then ?_)
  refine c_true rfl ?_
  refine c_seq (c_reg ?_)
  refine bB ?_
  refine l_end (n_then (c_ret (r_then ?_)))
  refine ret_tmp (v := .bool false) rfl ?_ ⟨rfl, hW.below⟩
  rfl
 ·intro hc1
  replace hc1 := of_decide_eq_false hc1
  omega

/-- below, where it may be no node -/
theorem g_pbelowX (y v : Int) (hy2 : y < 128) (hv : 0 < v) (hv2 : v < 128) : Gives Tryz.prog 114 [.int .i64 y, .int .i64 v].toArray (.bool (decide (1 ≤ y) && belowN y.toNat v.toNat)) := by
 by_cases h : y < 1
 ·rw [decide_eq_false (show ¬ 1 ≤ y by omega)]
  exact g_pbelowL y v h
 ·rw [decide_eq_true (show 1 ≤ y by omega)]
  exact g_pbelowZZ y v (by omega) (by omega) (by omega) (by omega)
set_option maxRecDepth 10000 in
/-- (headend/cover.tree).leads -/
theorem g_pleads (s : Sc) (n m v x : Int) (hv : 1 ≤ v) (hv2 : v < 128) (hx : 0 ≤ x) (hx2 : x < 128) (hm2 : m < 128) : Gives Tryz.prog 92 [.agg [.int .u8 s.k, .int .i64 s.d, .int .i64 (strideN s.d : Int)].toArray, .agg [.int .i64 n, .int .i64 m, .int .u8 0, .int .u8 0, .int .u8 0, .int .u8 0, .int .u8 0, .int .u8 0, .int .u8 0, .int .u8 0, .int .u8 0, .int .u8 0, .int .u8 0, .int .u8 0, .int .u8 0, .int .u8 0, .int .u8 0, .int .u8 0].toArray, .agg [.int .i64 v, .int .i64 x].toArray].toArray (.bool (leadB s n m v x)) := by
 refine gives_of Tryz.func92 rfl (bs := [.agg [.int .u8 s.k, .int .i64 s.d, .int .i64 (strideN s.d : Int)].toArray, .agg [.int .i64 n, .int .i64 m, .int .u8 0, .int .u8 0, .int .u8 0, .int .u8 0, .int .u8 0, .int .u8 0, .int .u8 0, .int .u8 0, .int .u8 0, .int .u8 0, .int .u8 0, .int .u8 0, .int .u8 0, .int .u8 0, .int .u8 0, .int .u8 0].toArray, .agg [.int .i64 v, .int .i64 x].toArray, undef, undef, undef, undef, undef, undef, undef, undef, undef, undef, undef, undef, undef, undef, undef, undef, undef, undef, undef, undef, undef, undef, undef, undef, undef, undef, undef, undef, undef, undef, undef, undef, undef, undef, undef]) rfl ?_
 intro w hW
 refine c_seq (c_reg ?_)
 refine xB hW ?_
 intro g1 W hW
 refine xB hW ?_
 intro g2 W hW
 refine xB hW ?_
 intro g3 W hW
 refine bB ?_
 refine l_end (n_then (c_seq (c_seq (c_reg ?_))))
 refine l_val (r_fieldAddr 0 Tryz.underlying130 rfl tyC3.size rfl rfl rfl) rfl rfl ?_
 refine dC hW 1 tyC3 ?_
 refine l_val (r_fieldAddr 0 Tryz.underlying64 rfl tyC3.size rfl rfl rfl) rfl rfl ?_
 refine dC hW 0 tyC3 ?_
 refine l_val (r_neq rfl rfl rfl rfl) rfl rfl ?_
 refine l_split ?_ ?_
 ·intro hc1
  replace hc1 := of_decide_eq_true hc1
  refine l_end (n_then ?_)
  refine c_true rfl ?_
  refine c_seq (c_reg ?_)
  refine bB ?_
  refine l_end (n_then (c_ret (r_then ?_)))
  refine ret_tmp (v := .bool (leadB s n m v x)) rfl ?_ ⟨rfl, hW.below⟩
  exact congrArg Value.bool (by unfold leadB; split <;> simp [show ¬ n = v by omega])
 ·intro hc1
  replace hc1 := of_decide_eq_false hc1
  refine l_end (n_then ?_)
  refine c_false rfl ?_
  refine c_skip (n_then (c_seq (c_seq (c_reg ?_))))
  refine l_val (r_fieldAddr 0 Tryz.underlying106 rfl tyC5.size rfl rfl rfl) rfl rfl ?_
  refine dC hW 2 tyC5 ?_
  refine l_val (r_eql rfl rfl rfl rfl) rfl rfl ?_
  refine l_split ?_ ?_
  ·intro hc2
   replace hc2 := of_decide_eq_true hc2
   refine aB ?_
   refine lN ?_
   refine lN ?_
   refine lN ?_
   refine kB ?_
   refine l_end (n_then ?_)
   refine c_true rfl ?_
   refine c_seq (c_reg ?_)
   refine l_val (r_fieldAddr 1 Tryz.underlying130 rfl tyC3.size rfl rfl rfl) rfl rfl ?_
   refine dC hW 1 tyC3 ?_
   refine l_val (r_fieldAddr 1 Tryz.underlying64 rfl tyC3.size rfl rfl rfl) rfl rfl ?_
   refine dC hW 0 tyC3 ?_
   refine l_val (r_eql rfl rfl rfl rfl) rfl rfl ?_
   refine bB ?_
   refine l_end (n_then (c_ret (r_then ?_)))
   refine ret_tmp (v := .bool (leadB s n m v x)) rfl ?_ ⟨rfl, hW.below⟩
   exact congrArg Value.bool (by rw [leadB, if_pos (by omega)]; exact decide_eq_decide.2 (by omega))
  ·intro hc2
   replace hc2 := of_decide_eq_false hc2
   refine aB ?_
   refine l_valG (r_fieldAddr 1 Tryz.underlying64 rfl tyC3.size rfl rfl rfl) (by kernel_rfl) rfl ?_
   refine dG hW 0 tyC3 ?_
   refine l_valG (r_eql rfl rfl rfl rfl) (by kernel_rfl) rfl ?_
   refine l_split ?_ ?_
   ·intro hc3
    replace hc3 := of_decide_eq_true hc3
    refine kB ?_
    refine l_end (n_then ?_)
    refine c_true rfl ?_
    refine c_seq (c_reg ?_)
    refine l_val (r_fieldAddr 1 Tryz.underlying130 rfl tyC3.size rfl rfl rfl) rfl rfl ?_
    refine dC hW 1 tyC3 ?_
    refine l_val (r_fieldAddr 1 Tryz.underlying64 rfl tyC3.size rfl rfl rfl) rfl rfl ?_
    refine dC hW 0 tyC3 ?_
    refine l_val (r_eql rfl rfl rfl rfl) rfl rfl ?_
    refine bB ?_
    refine l_end (n_then (c_ret (r_then ?_)))
    refine ret_tmp (v := .bool (leadB s n m v x)) rfl ?_ ⟨rfl, hW.below⟩
    exact congrArg Value.bool (by rw [leadB, if_pos (by omega)]; exact decide_eq_decide.2 (by omega))
   ·intro hc3
    replace hc3 := of_decide_eq_false hc3
    refine kB ?_
    refine l_end (n_then ?_)
    refine c_false rfl ?_
    refine c_skip (n_then (c_seq (c_reg ?_)))
    refine l_val (r_fieldAddr 1 Tryz.underlying130 rfl tyC3.size rfl rfl rfl) rfl rfl ?_
    refine dC hW 1 tyC3 ?_
    refine bI ?_
    refine l_end (n_then (c_seq (c_reg ?_)))
    refine aI ?_
    refine l_val (r_fieldAddr 0 Tryz.underlying130 rfl tyC3.size rfl rfl rfl) rfl rfl ?_
    refine dC hW 1 tyC3 ?_
    refine l_call hW (g_pbelowX m n (by omega) (by omega) (by omega)) en114 rfl rfl rfl rfl ?_
    intro W hW
    refine l_split ?_ ?_
    ·intro hc4
     have hm1 : 1 ≤ m := of_decide_eq_true (Bool.and_eq_true_iff.1 hc4).1
     refine aB ?_
     refine l_valG (r_fieldAddr 1 Tryz.underlying64 rfl tyC3.size rfl rfl rfl) (by kernel_rfl) rfl ?_
     refine dG hW 0 tyC3 ?_
     refine gI ?_
     refine l_callG hW (g_pbelowZZ x m (by omega) (by omega) (by omega) (by omega)) en114 (by kernel_rfl) rfl rfl rfl ?_
     intro W hW
     refine kB ?_
     refine bB ?_
     refine l_end (n_then (c_ret ?_))
     refine ret_tmp (v := .bool (leadB s n m v x)) rfl ?_ ⟨rfl, hW.below⟩
     exact congrArg Value.bool (by rw [leadB, if_neg (by omega), decide_eq_true (show n = v ∧ 1 ≤ m by omega), (Bool.and_eq_true_iff.1 hc4).2]; rfl)
    ·intro hc4
     refine aB ?_
     refine lN ?_
     refine lN ?_
     refine lN ?_
     refine lN ?_
     refine kB ?_
     refine bB ?_
     refine l_end (n_then (c_ret ?_))
     refine ret_tmp (v := .bool (leadB s n m v x)) rfl ?_ ⟨rfl, hW.below⟩
     have e : decide (n = v ∧ 1 ≤ m) = decide (1 ≤ m) := decide_eq_decide.2 (by omega)
     exact congrArg Value.bool (by rw [leadB, if_neg (by omega), e, hc4]; rfl)

set_option maxRecDepth 10000 in
/-- headend/cover.Knows$1 -/
theorem g_Knows1 (s : Sc) (u ga_ gb_ : Nat) (v x : Int) (hs : schB s = true) (hu : u < p2 s.d.toNat) (hsub : subB s v x = true) : GivesR Tryz.prog 91 [.int .i64 (u : Int), .pointer (some ⟨ga_, 0, none⟩), .pointer (some ⟨gb_, 0, none⟩)].toArray (fun w => w.heap[ga_]? = some (.cells [.int .u8 s.k, .int .i64 s.d, .int .i64 (strideN s.d : Int)].toArray 106 (0, 0)) ∧ w.heap[gb_]? = some (.cells [.int .i64 v, .int .i64 x].toArray 64 (0, 0))) (.bool (memB s v x u)) := by
 refine givesRM_of Tryz.func91 rfl (bs := [.int .i64 (u : Int), .pointer (some ⟨ga_, 0, none⟩), .pointer (some ⟨gb_, 0, none⟩), undef, undef, undef, undef, undef, undef, undef, undef, undef, undef, undef, undef, undef, undef, undef]) rfl ?_
 intro w hP hW
 have hM : MkOk w w w [] := MkOk.nil
 obtain ⟨k1, k3, d0, d6, -⟩ := schB_iff.1 hs
 obtain ⟨hx1, hx2, hx3, hx4⟩ := sub_x d6 hsub
 refine c_seq (c_reg ?_)
 refine l_allocC hW tyZ4 rfl rfl rfl rfl ?_
 intro g1 W hW
 refine l_end (n_then (c_seq (c_seq (c_reg ?_))))
 refine l_loadFA hW tyA106 (cs := [.int .u8 s.k, .int .i64 s.d, .int .i64 (strideN s.d : Int)]) hP.1 rfl rfl rfl rfl rfl ?_
 refine aI ?_
 refine l_callX hW (g_plabels s u) en64 trivial rfl rfl rfl rfl ?_
 rintro _ Bs1 W ⟨ga1, gb1, rfl, rfl⟩ hW
 replace hW := hW.perm List.perm_append_comm
 refine l_end (n_then (c_block ?_))
 refine c_rangeT (t_labels s u ga1 gb1 hs hu) en109 rfl (fun _ => rfl) hM (S := fun _ => none) Sup.none (fun i => !leadB s (qn (labN s u) i) (qm (labN s u) i) v x) (fun _ => [⟨g1, [z4], 4⟩]) ([⟨g1, [.bool true], 4⟩]) hW (fun (i : Nat) => fr [.int .i64 (u : Int), .pointer (some ⟨ga_, 0, none⟩), .pointer (some ⟨gb_, 0, none⟩), undef, .pointer (some ⟨g1, 0, none⟩), .int .i64 (qn (labN s u) i), .int .i64 (qm (labN s u) i), .agg [.int .u8 s.k, .int .i64 s.d, .int .i64 (strideN s.d : Int)].toArray, .int .i64 (u : Int), .func (.func 109) #[] #[.pointer (some ⟨ga1, 0, none⟩), .pointer (some ⟨gb1, 0, none⟩)], .int .i64 (qn (labN s u) i), .int .i64 (qm (labN s u) i), undef, undef, undef, undef, undef, undef] [] []) (fun (i : Nat) => [.int .i64 (u : Int), .pointer (some ⟨ga_, 0, none⟩), .pointer (some ⟨gb_, 0, none⟩), undef, .pointer (some ⟨g1, 0, none⟩), undef, undef, .agg [.int .u8 s.k, .int .i64 s.d, .int .i64 (strideN s.d : Int)].toArray, .int .i64 (u : Int), .func (.func 109) #[] #[.pointer (some ⟨ga1, 0, none⟩), .pointer (some ⟨gb1, 0, none⟩)], .int .i64 (qn (labN s u) i), .int .i64 (qm (labN s u) i), undef, undef, undef, undef, undef, undef]) (fun _ => by kernel_rfl) ?_ ?_ ?_ ?_
 ·intro l i W
  refine c_seq (c_reg ?_)
  refine bI ?_
  refine l_end (n_then (c_reg ?_))
  refine bI ?_
  refine l_end ?_
  refine n_then ⟨?_, rfl⟩
  exact congrArg (fun x => (fr x [] [] : Act)) (by kernel_rfl)
 ·intro lq rq i L W he hi hc hW
  refine c_block (c_seq (c_reg ?_))
  refine l_loadFA hW tyA106 (cs := [.int .u8 s.k, .int .i64 s.d, .int .i64 (strideN s.d : Int)]) hP.1 rfl rfl rfl rfl rfl ?_
  refine aI ?_
  refine aI ?_
  refine l_val (r_build (ps := [(0, .int _ _), (1, .int _ _)]) (bld130_0_1 _ _) rfl rfl) rfl rfl ?_
  refine l_loadFA hW tyA64 (cs := [.int .i64 v, .int .i64 x]) hP.2 rfl rfl rfl rfl rfl ?_
  refine l_call hW (g_pleads s (qn (labN s u) i) (qm (labN s u) i) v x (by omega) (by omega) (by omega) (by omega) (lab_lt hs hu i hi)) en92 rfl rfl rfl rfl ?_
  intro W hW
  refine l_split ?_ ?_
  ·intro hc1
   refine l_end (n_then ?_)
   refine c_true rfl ?_
   refine c_seq (c_reg ?_)
   refine l_storeC hW 2 tyC4 (v := .bool _) rfl rfl rfl rfl rfl rfl (by first | rfl | omega | (simp; done) | (simp; omega)) rfl ?_
   intro W hW
   refine l_end (n_then (c_ret (r_block ?_)))
   exact .inr ⟨by rw [hc1]; rfl, rfl, hW.ext stp_none⟩
  ·intro hc1
   refine l_end (n_then ?_)
   refine c_false rfl ?_
   refine c_skip (n_block ?_)
   exact .inl ⟨by rw [hc1]; rfl, rfl, hW⟩
 ·intro ds rq W hc hM he hW
  refine n_block (n_then (c_seq (c_reg ?_)))
  refine l_storeC hW 2 tyC4 (v := .bool _) rfl rfl rfl rfl rfl rfl (by first | rfl | omega | (simp; done) | (simp; omega)) rfl ?_
  intro W hW
  refine l_end (n_then (c_ret ?_))
  refine ret_marks hM hW fun W hW => ?_
  refine ret_cellC hW 2 tyC4 rfl rfl rfl ?_
  exact ⟨by rw [kmem_no hs hsub hu hc], hW.below⟩
 ·intro ds rq W hc hM hW
  refine r_block (r_then ?_)
  refine ret_marks hM hW fun W hW => ?_
  refine ret_cellC hW 2 tyC4 rfl rfl rfl ?_
  exact ⟨by rw [kmem_yes hs hsub hu hc], hW.below⟩

end Go.Proofs.YtoegpalacppllaaGreat

/- Whether a number is in a list; subsets of a scheme that is not valid. -/
namespace Go.Proofs.YtoegpalacppllaaGreat
open Go.RowKit Pl
open Tr Hn
set_option maxRecDepth 10000 in
/-- headend/cover.enter -/
theorem g_enterX (s : Sc) (ra : Option Addr) (rn rc : Nat) (l : List (Int × Int)) (hs : schB s = false) : GivesR Tryz.prog 51 [.agg [.int .u8 s.k, .int .i64 s.d, .int .i64 s.g, .int .u64 s.p, .int .u64 s.q, .int .u64 s.r].toArray, .slice ra rn rc].toArray (fun w => RdB w ⟨ra, rn, rc⟩ l) (.tuple #[.agg ([.int .u8 0, .int .i64 0, .int .i64 0]).toArray, .int .i64 30]) := by
 refine givesR_of Tryz.func51 rfl (bs := [.agg [.int .u8 s.k, .int .i64 s.d, .int .i64 s.g, .int .u64 s.p, .int .u64 s.q, .int .u64 s.r].toArray, .slice ra rn rc, undef, undef, undef, undef, undef, undef, undef, undef, undef, undef, undef, undef, undef, undef, undef, undef, undef, undef, undef, undef, undef, undef, undef, undef, undef, undef, undef, undef, undef]) rfl ?_
 intro w hP hW
 refine c_seq (c_reg ?_)
 refine xB hW ?_
 intro g1 W hW
 refine l_alloc hW tyZ106 rfl rfl rfl ?_
 intro g2 W hW
 refine bI ?_
 refine l_end (n_then (c_seq (c_reg ?_)))
 refine dA hW 1 tyA26 ?_
 refine l_call hW (g_treeOf s) en98 rfl rfl rfl rfl ?_
 intro W hW
 rw [treeC_no hs, hs]
 refine l_val (r_move (v := .tuple _) rfl rfl) rfl rfl ?_
 refine l_val (r_extract (v := .agg _) rfl rfl rfl) rfl rfl ?_
 refine l_val (r_extract (v := .bool _) rfl rfl rfl) rfl rfl ?_
 refine l_alloc hW tyZ106 rfl rfl rfl ?_
 intro g3 W hW
 refine sA hW 0 tyA106 ?_
 intro W hW
 refine bB ?_
 refine l_end (n_then (c_seq (c_seq (c_reg ?_))))
 refine aB ?_
 refine l_val (r_not rfl rfl) rfl rfl ?_
 refine l_end (n_then ?_)
 refine c_true rfl ?_
 refine c_seq (c_reg ?_)
 refine l_val (r_build (ps := []) (bld106_) rfl rfl) rfl rfl ?_
 refine sA hW 1 tyA106 ?_
 intro W hW
 refine bI ?_
 refine l_end (n_then (c_ret (r_then ?_)))
 refine rT hW 1 tyA106 ?_
 exact ⟨rfl, hW.below⟩

end Go.Proofs.YtoegpalacppllaaGreat

/- What the end of a trace tells, as the outright statements ask. No program is in sight here. -/
namespace Go.Proofs.YtoegpalacppllaaGreat.Tr
open Hn

/-- the receivers of a list, in order -/
def restL (t : List Int) (n : Nat) : List Int := (rangeI n).filter fun u => t.contains u
theorem mem_restL {t : List Int} {n : Nat} {x : Int} : x ∈ restL t n ↔ (0 ≤ x ∧ x < n) ∧ x ∈ t := by
  rw [restL, List.mem_filter, mem_rangeI, List.contains_iff_mem]
theorem restL_nodup (t : List Int) (n : Nat) : (restL t n).Nodup := List.Pairwise.filter _ (nodup_rangeI n)
theorem len_eq_of {a b : List Int} (ha : a.Nodup) (hb : b.Nodup) (h : ∀ x, x ∈ a ↔ x ∈ b) : a.length = b.length :=
  Nat.le_antisymm (List.Nodup.length_le_of_subset ha fun x hx => (h x).1 hx) (List.Nodup.length_le_of_subset hb fun x hx => (h x).2 hx)
theorem restL_len {t : List Int} {n : Nat} (hn : t.Nodup) (hr : ∀ x ∈ t, 0 ≤ x ∧ x < n) : (restL t n).length = t.length :=
  len_eq_of (restL_nodup t n) hn fun x => ⟨fun h => (mem_restL.1 h).2, fun h => mem_restL.2 ⟨hr x h, h⟩⟩
/-- whether subsets are valid, and no receiver is a member of two -/
def memsB (s : Sc) (l : List (Int × Int)) : Bool := (List.range l.length).all (fun i => schB s && subB s (qn l i) (qm l i)) && decide (allm s l).Nodup
/-- the receivers of some subsets -/
def memsL (s : Sc) (l : List (Int × Int)) : List Int := if memsB s l then restL (allm s l) 64 else []
/-- a trace without an error -/
structure TrOk (b : Bo) (l : List (Int × Int)) (noise : Int) (r : Ts × Nat) : Prop where
  s : schB b.s = true
  box : chkB b = 0
  n0 : 0 ≤ noise
  n8 : noise ≤ 8
  lim : b.a + lim b.s.d noise ≤ 100000
  sub : ∀ i, i < l.length → subB b.s (qn l i) (qm l i) = true
  nd : (allm b.s l).Nodup
  fin : Fin (2 * noise.toNat + 1) b (allm b.s l) r
theorem all_64 {s : Sc} {l : List (Int × Int)} (hs : schB s = true) : ∀ x ∈ allm s l, 0 ≤ x ∧ x < 64 := fun x hx => by
  have h1 := all_lt hx
  have h2 := p2_le (n := s.d.toNat) (by have := schB_iff.1 hs; omega)
  omega
section
variable {b : Bo} {l : List (Int × Int)} {noise : Int} {r : Ts × Nat} (k : TrOk b l noise r)
include k
theorem TrOk.asked : (r.1.a : Int) ≤ boundV b.s noise ∧ boundE b.s noise = 0 := by
  obtain ⟨h1, h2⟩ := bound_ok k.s ⟨k.n0, k.n8⟩
  have hd := schB_iff.1 k.s
  rw [h1, h2, lim_nat (by omega) k.n0]
  have := k.fin.fit
  exact ⟨by omega, rfl⟩
theorem TrOk.nd2 : (allm b.s r.1.l ++ r.1.nm).Nodup := (k.fin.part.perm.nodup_iff).2 k.nd
theorem TrOk.okb : Okb b := by
  obtain ⟨hs, hu, h1, h2, h3, h4, h5, h6, h7, h8, h9, h10⟩ := chkB_ok (show ¬ chkB b ≠ 0 by have := k.box; omega)
  exact ⟨h3, h4, h9, h10⟩
theorem TrOk.s' : r.1.b.s = b.s := k.fin.ask.s
theorem TrOk.subs' : r.1.l.length ≤ 64 ∧ ∀ i, i < r.1.l.length → subB b.s (qn r.1.l i) (qm r.1.l i) = true := by
  have hd := schB_iff.1 k.s
  have h1 := (len_le k.s k.nd k.fin.part).2
  have h2 := p2_le (n := b.s.d.toNat) (by omega)
  exact ⟨by omega, fun i hi => k.fin.part.sub _ (q_mem.2 ⟨i, hi, rfl⟩)⟩
theorem TrOk.before : memsB b.s l = true ∧ memsL b.s l = restL (allm b.s l) 64 := by
  have h : memsB b.s l = true := by
    rw [memsB, Bool.and_eq_true, List.all_eq_true]
    exact ⟨fun i hi => by rw [k.s, k.sub i (List.mem_range.1 hi)]; rfl, decide_eq_true k.nd⟩
  exact ⟨h, if_pos h⟩
theorem TrOk.after : memsB b.s r.1.l = true ∧ memsL b.s r.1.l = restL (allm b.s r.1.l) 64 := by
  have h : memsB b.s r.1.l = true := by
    rw [memsB, Bool.and_eq_true, List.all_eq_true]
    exact ⟨fun i hi => by rw [k.s, k.subs'.2 i (List.mem_range.1 hi)]; rfl, decide_eq_true (List.nodup_append.1 k.nd2).1⟩
  exact ⟨h, if_pos h⟩
theorem TrOk.sum : (restL (allm b.s r.1.l) 64).length + r.1.nm.length = (restL (allm b.s l) 64).length := by
  rw [restL_len (List.nodup_append.1 k.nd2).1 (all_64 k.s), restL_len k.nd (all_64 k.s), ← k.fin.part.perm.length_eq, List.length_append]
theorem TrOk.named {u : Int} (hu : u ∈ r.1.nm) : u ∈ b.l ∧ u ∈ restL (allm b.s l) 64 ∧ u ∉ restL (allm b.s r.1.l) 64 := by
  have h1 := k.fin.part.perm.subset (List.mem_append_right _ hu)
  exact ⟨k.fin.col u hu, mem_restL.2 ⟨all_64 k.s u h1, h1⟩, fun h => (List.nodup_append.1 k.nd2).2.2 u (mem_restL.1 h).2 u hu rfl⟩
/-- the queries behind a trace -/
theorem TrOk.run (j : Nat) : Askd r.1.b (asks r.1.o 0 j r.1.b) j := by
  have := asks_run r.1.o 0 j (k.okb.run k.fin.ask).refl
  rwa [Nat.zero_add] at this
theorem TrOk.quiet (j : Nat) : plays (asks r.1.o 0 j r.1.b) r.1.o 0 = false := by
  cases h : plays (asks r.1.o 0 j r.1.b) r.1.o 0 with
  | false => rfl
  | true =>
    obtain ⟨h1, h2, -⟩ := plays_iff.1 h
    have hr := k.run j
    rw [wish_same hr] at h1
    rcases k.fin.shut with hs | hs
    · rw [h1] at hs; cases hs
    · have hd := dead_mono (hr.ask r.1.o 0) hs
      have := of_decide_eq_true hd
      rw [(hr.ask r.1.o 0).v, ← hr.v] at this
      exact absurd this h2
/-- of an immortal box all are named -/
theorem TrOk.all (hv : b.v = 0) {u : Int} (hu : u ∈ b.l) (hb : u ∈ restL (allm b.s l) 64) : u ∈ r.1.nm := by
  have h1 := (k.fin.all hv).2
  have h2 := (k.fin.part.perm.symm.subset (mem_restL.1 hb).2)
  rcases List.mem_append.1 h2 with h | h
  · exfalso
    obtain ⟨m, hm, hx⟩ := List.mem_flatten.1 h
    obtain ⟨y, hy, rfl⟩ := List.mem_map.1 hm
    obtain ⟨i, hi, e⟩ := q_mem.1 hy
    have hmem := (members_lt hx).2.2
    have ho := mem_opn (s := b.s) hu hmem
    rw [wish_zero, show r.1.o.length = r.1.l.length from opens_len _ _ _] at h1
    have := anyB_iff.1 h1 i hi
    rw [Ts.o, opens_getD hi, k.s', k.fin.ask.l] at this
    rw [e] at ho
    rw [ho] at this; cases this
  · exact h
end
end Go.Proofs.YtoegpalacppllaaGreat.Tr

/- Whether a list knows a subset. -/
namespace Go.Proofs.YtoegpalacppllaaGreat
open Go.RowKit Pl
open Tr Hn
/-- a receiver, as a whole number -/
theorem g_Knows1Z (s : Sc) (ga_ gb_ : Nat) (v x : Int) (hs : schB s = true) (hsub : subB s v x = true) (u : Int) (h0 : 0 ≤ u) (hu : u < ((p2 s.d.toNat : Nat) : Int)) : GivesR Tryz.prog 91 [.int .i64 u, .pointer (some ⟨ga_, 0, none⟩), .pointer (some ⟨gb_, 0, none⟩)].toArray (fun w => w.heap[ga_]? = some (.cells [.int .u8 s.k, .int .i64 s.d, .int .i64 (strideN s.d : Int)].toArray 106 (0, 0)) ∧ w.heap[gb_]? = some (.cells [.int .i64 v, .int .i64 x].toArray 64 (0, 0))) (.bool (memB s v x u.toNat)) := by
 obtain ⟨n, rfl⟩ : ∃ n : Nat, u = n := ⟨u.toNat, by omega⟩
 exact g_Knows1 s n ga_ gb_ v x hs (by omega) hsub
set_option maxRecDepth 10000 in
/-- slices.IndexFunc[[]int,int] -/
theorem g_IndexK (s : Sc) (ga_ gb_ : Nat) (v x : Int) (hs : schB s = true) (hsub : subB s v x = true) (aa : Option Addr) (an ac : Nat) (l : List Int) (hin : ∀ i, i < l.length → 0 ≤ at_ l i ∧ at_ l i < ((p2 s.d.toNat : Nat) : Int)) (hl : l.length ≤ 4294967296) : GivesR Tryz.prog 134 [.slice aa an ac, .func (.func 91) #[] #[.pointer (some ⟨ga_, 0, none⟩), .pointer (some ⟨gb_, 0, none⟩)]].toArray (fun w => (w.heap[ga_]? = some (.cells [.int .u8 s.k, .int .i64 s.d, .int .i64 (strideN s.d : Int)].toArray 106 (0, 0)) ∧ w.heap[gb_]? = some (.cells [.int .i64 v, .int .i64 x].toArray 64 (0, 0))) ∧ RdI w ⟨aa, an, ac⟩ l) (.int .i64 (findI l.length fun k => memB s v x (at_ l k).toNat)) := by
 refine givesR_of Tryz.func134 rfl (bs := [.slice aa an ac, .func (.func 91) #[] #[.pointer (some ⟨ga_, 0, none⟩), .pointer (some ⟨gb_, 0, none⟩)], undef, undef, undef, undef, undef, undef, undef, undef, undef, undef, undef, undef, undef, undef, undef, undef, undef]) rfl ?_
 intro w hP hW
 have hn : an = l.length := hP.2.len
 refine c_seq (c_reg ?_)
 refine bI ?_
 refine l_end (n_then (c_seq (c_seq (c_reg ?_))))
 refine aS ?_
 refine l_val (r_lenSlice Tryz.underlying27 rfl rfl) rfl rfl ?_
 refine aI ?_
 refine l_end (n_then (c_block ?_))
 refine c_loop (fun (i : Nat) (j : Nat → Value) => [.slice aa an ac, .func (.func 91) #[] #[.pointer (some ⟨ga_, 0, none⟩), .pointer (some ⟨gb_, 0, none⟩)], j 2, j 3, j 4, j 5, .slice aa an ac, .int .i64 (an : Int), .int .i64 (i : Int), j 9, j 10, j 11, j 12, j 13, j 14, j 15, j 16, j 17, j 18]) (fun (i : Nat) => []) (fun (i : Nat) => i ≤ an ∧ ∀ k, k < i → memB s v x (at_ l k).toNat = false) (fun (i : Nat) => an - i) 0 (by kernel_rfl) hW ⟨by omega, all_zero⟩ ?_
 intro i j W hx hW
 obtain ⟨hi0, hib⟩ := hx
 refine c_seq (c_reg ?_)
 refine l_val (r_lssN rfl rfl rfl rfl) rfl rfl ?_
 refine l_split ?_ ?_
 ·intro hc1
  replace hc1 := of_decide_eq_true hc1
  obtain ⟨b0, o0, ha, hq⟩ := hP.2.ptr (by omega)
  simp only at ha
  subst ha
  refine l_end (n_then (c_seq ?_))
  refine c_true rfl ?_
  refine c_skip (n_then (c_seq (c_block (c_seq (c_reg ?_)))))
  refine aI ?_
  refine bI ?_
  refine l_end (n_then (c_seq (c_reg ?_)))
  refine l_val (r_move (v := .func _ _ _) rfl rfl) rfl rfl ?_
  refine aS ?_
  refine aI ?_
  refine l_val (r_indexAddrSl2 (n := i) Tryz.underlying27 tyC3.size rfl rfl rfl (by omega)) rfl rfl ?_
  refine l_loadF hW tyC3 (v := .int .i64 (at_ l (i))) (hq (i) (by omega)) rfl rfl rfl rfl ?_
  refine l_callVR hW (args := [.int .i64 (at_ l i)]) (cap := [.pointer (some ⟨ga_, 0, none⟩), .pointer (some ⟨gb_, 0, none⟩)]) (g_Knows1Z s ga_ gb_ v x hs hsub (at_ l i) (hin i (by omega)).1 (hin i (by omega)).2) en91 ⟨heap_past hW.below hP.1.1, heap_past hW.below hP.1.2⟩ rfl rfl rfl rfl rfl ?_
  intro W hW
  refine l_split ?_ ?_
  ·intro hc2
   refine l_end (n_then ?_)
   refine c_true rfl ?_
   refine c_seq (c_reg ?_)
   refine aI ?_
   refine bI ?_
   refine l_end (n_then (c_ret (r_block (r_then (r_then (r_block (r_then ?_)))))))
   refine ret_tmp (v := .int .i64 (findI l.length fun k => memB s v x (at_ l k).toNat)) rfl ?_ ⟨rfl, hW.below⟩
   exact congrArg (Value.int .i64) (find_yes (p := fun k => memB s v x (at_ l k).toNat) (by omega) hc2 hib).symm
  ·intro hc2
   refine l_end (n_then ?_)
   refine c_false rfl ?_
   refine c_skip (n_block (n_then (c_reg ?_)))
   refine l_val (r_addN (n := 1) rfl rfl rfl (by omega)) rfl rfl ?_
   refine aI ?_
   refine l_end (n_then ?_)
   exact loop_next (i + 1) (by kernel_rfl) hW ⟨by omega, all_upto hib hc2⟩ (by omega)
 ·intro hc1
  replace hc1 := of_decide_eq_false hc1
  refine l_end (n_then (c_seq ?_))
  refine c_false rfl ?_
  refine c_exit (x_then (x_then ?_))
  refine x_hit ?_
  refine n_then (c_seq (c_reg ?_))
  refine bI ?_
  refine l_end (n_then (c_ret ?_))
  refine ret_tmp (v := .int .i64 (findI l.length fun k => memB s v x (at_ l k).toNat)) rfl ?_ ⟨rfl, hW.below⟩
  exact congrArg (Value.int .i64) (find_no fun k hk => hib k (by omega)).symm

set_option maxRecDepth 10000 in
/-- slices.ContainsFunc[[]int,int] -/
theorem g_ContainsK (s : Sc) (ga_ gb_ : Nat) (v x : Int) (hs : schB s = true) (hsub : subB s v x = true) (aa : Option Addr) (an ac : Nat) (l : List Int) (hin : ∀ i, i < l.length → 0 ≤ at_ l i ∧ at_ l i < ((p2 s.d.toNat : Nat) : Int)) (hl : l.length ≤ 4294967296) : GivesR Tryz.prog 90 [.slice aa an ac, .func (.func 91) #[] #[.pointer (some ⟨ga_, 0, none⟩), .pointer (some ⟨gb_, 0, none⟩)]].toArray (fun w => (w.heap[ga_]? = some (.cells [.int .u8 s.k, .int .i64 s.d, .int .i64 (strideN s.d : Int)].toArray 106 (0, 0)) ∧ w.heap[gb_]? = some (.cells [.int .i64 v, .int .i64 x].toArray 64 (0, 0))) ∧ RdI w ⟨aa, an, ac⟩ l) (.bool (opnB s l v x)) := by
 refine givesR_of Tryz.func90 rfl (bs := [.slice aa an ac, .func (.func 91) #[] #[.pointer (some ⟨ga_, 0, none⟩), .pointer (some ⟨gb_, 0, none⟩)], undef, undef, undef, undef, undef, undef, undef]) rfl ?_
 intro w hP hW
 refine c_seq (c_reg ?_)
 refine bB ?_
 refine l_end (n_then (c_seq (c_reg ?_)))
 refine aS ?_
 refine l_val (r_move (v := .func _ _ _) rfl rfl) rfl rfl ?_
 refine l_callR hW (g_IndexK s ga_ gb_ v x hs hsub aa an ac l hin hl) en134 ⟨⟨heap_past hW.below hP.1.1, heap_past hW.below hP.1.2⟩, hP.2.past hW.below⟩ rfl rfl rfl rfl ?_
 intro W hW
 refine l_val (r_geq rfl rfl rfl rfl) rfl rfl ?_
 refine bB ?_
 refine l_end (n_then (c_ret ?_))
 refine ret_tmp (v := .bool (opnB s l v x)) rfl ?_ ⟨rfl, hW.below⟩
 exact congrArg Value.bool (find_any _ _)

set_option maxRecDepth 10000 in
/-- (headend/cover.tree).receiver -/
theorem g_preceiver (s : Sc) (u : Int) (h0 : 0 ≤ s.d) (h6 : s.d ≤ 6) : Gives Tryz.prog 63 [.agg [.int .u8 s.k, .int .i64 s.d, .int .i64 (strideN s.d : Int)].toArray, .int .i64 u].toArray (.bool (decide (0 ≤ u ∧ u < ((p2 s.d.toNat : Nat) : Int)))) := by
 refine gives_of Tryz.func63 rfl (bs := [.agg [.int .u8 s.k, .int .i64 s.d, .int .i64 (strideN s.d : Int)].toArray, .int .i64 u, undef, undef, undef, undef, undef, undef, undef, undef, undef, undef, undef]) rfl ?_
 intro w hW
 have hp := p2_le (n := s.d.toNat) (by omega)
 refine c_seq (c_reg ?_)
 refine xB hW ?_
 intro g1 W hW
 refine bB ?_
 refine l_end (n_then (c_seq (c_reg ?_)))
 refine aI ?_
 refine l_val (r_geq rfl rfl rfl rfl) rfl rfl ?_
 refine l_split ?_ ?_
 ·intro hc1
  replace hc1 := of_decide_eq_true hc1
  refine aB ?_
  refine gI ?_
  refine l_loadAG hW 0 tyA106 (by kernel_rfl) rfl rfl rfl rfl (by first | rfl | exact kc_len _ | exact kcf_len _ | exact boC_len _ _ | (simp; done)) ?_
  refine l_callG hW (g_psize s (by omega) (by omega)) en99 (by kernel_rfl) rfl rfl rfl ?_
  intro W hW
  refine l_valG (r_lss rfl rfl rfl rfl) (by kernel_rfl) rfl ?_
  refine kB ?_
  refine bB ?_
  refine l_end (n_then (c_ret ?_))
  refine ret_tmp (v := .bool (decide (0 ≤ u ∧ u < ((p2 s.d.toNat : Nat) : Int)))) rfl ?_ ⟨rfl, hW.below⟩
  exact congrArg Value.bool (decide_eq_decide.2 (by omega))
 ·intro hc1
  replace hc1 := of_decide_eq_false hc1
  refine aB ?_
  refine lN ?_
  refine lN ?_
  refine lN ?_
  refine lN ?_
  refine kB ?_
  refine bB ?_
  refine l_end (n_then (c_ret ?_))
  refine ret_tmp (v := .bool (decide (0 ≤ u ∧ u < ((p2 s.d.toNat : Nat) : Int)))) rfl ?_ ⟨rfl, hW.below⟩
  exact congrArg Value.bool (decide_eq_false (by omega)).symm

set_option maxRecDepth 10000 in
/-- (headend/cover.tree).list -/
theorem g_plist (s : Sc) (d0 : 0 ≤ s.d) (d6 : s.d ≤ 6) (aa : Option Addr) (an ac : Nat) (l : List Int) (hl : l.length ≤ 4294967296) : GivesR Tryz.prog 52 [.agg [.int .u8 s.k, .int .i64 s.d, .int .i64 (strideN s.d : Int)].toArray, .slice aa an ac].toArray (fun w => RdI w ⟨aa, an, ac⟩ l) (.bool (usersB l ((p2 s.d.toNat : Nat) : Int))) := by
 refine givesR_of Tryz.func52 rfl (bs := [.agg [.int .u8 s.k, .int .i64 s.d, .int .i64 (strideN s.d : Int)].toArray, .slice aa an ac, undef, undef, undef, undef, undef, undef, undef, undef, undef, undef, undef, undef, undef, undef, undef, undef, undef, undef, undef, undef, undef, undef, undef, undef, undef, undef, undef, undef, undef, undef]) rfl ?_
 intro w hP hW
 have hn : an = l.length := hP.len
 refine c_seq (c_reg ?_)
 refine xB hW ?_
 intro g1 W hW
 refine bB ?_
 refine l_end (n_then (c_seq (c_seq (c_reg ?_))))
 refine aS ?_
 refine l_val (r_lenSlice Tryz.underlying27 rfl rfl) rfl rfl ?_
 refine aI ?_
 refine l_end (n_then (c_block ?_))
 refine c_loop (fun (i : Nat) (j : Nat → Value) => [.agg [.int .u8 s.k, .int .i64 s.d, .int .i64 (strideN s.d : Int)].toArray, .slice aa an ac, .pointer (some ⟨g1, 0, none⟩), j 3, j 4, j 5, j 6, .slice aa an ac, .int .i64 (an : Int), .int .i64 (i : Int), j 10, j 11, j 12, j 13, j 14, j 15, j 16, j 17, j 18, j 19, j 20, j 21, j 22, j 23, j 24, j 25, j 26, j 27, j 28, j 29, j 30, j 31]) (fun (i : Nat) => [⟨g1, [.int .u8 s.k, .int .i64 s.d, .int .i64 (strideN s.d : Int)], 106⟩]) (fun (i : Nat) => i ≤ an ∧ ∀ k, k < i → 0 ≤ at_ l k ∧ at_ l k < ((p2 s.d.toNat : Nat) : Int) ∧ (k = 0 ∨ at_ l (k - 1) < at_ l k)) (fun (i : Nat) => an - i) 0 (by kernel_rfl) hW ⟨by omega, all_zero⟩ ?_
 intro i j W hx hW
 refine c_seq (c_reg ?_)
 refine l_val (r_lssN rfl rfl rfl rfl) rfl rfl ?_
 refine l_split ?_ ?_
 ·intro hc1
  replace hc1 := of_decide_eq_true hc1
  obtain ⟨b0, o0, ha, hc⟩ := hP.ptr (by omega)
  simp only at ha
  subst ha
  refine l_end (n_then (c_seq ?_))
  refine c_true rfl ?_
  refine c_skip (n_then (c_seq (c_block (c_seq (c_reg ?_)))))
  refine aI ?_
  refine l_val (r_indexAddrSl2 (n := i) Tryz.underlying27 tyC3.size rfl rfl rfl (by omega)) rfl rfl ?_
  refine l_loadF hW tyC3 (v := .int .i64 (at_ l (i))) (hc (i) (by omega)) rfl rfl rfl rfl ?_
  refine bI ?_
  refine bI ?_
  refine l_end (n_then (c_seq (c_reg ?_)))
  refine dA hW 0 tyA106 ?_
  refine aI ?_
  refine l_call hW (g_preceiver s (at_ l i) d0 d6) en63 rfl rfl rfl rfl ?_
  intro W hW
  refine l_split ?_ ?_
  ·intro hc2
   replace hc2 := of_decide_eq_true hc2
   refine l_val (r_not rfl rfl) rfl rfl ?_
   refine aB ?_
   refine gI ?_
   refine l_valG (r_gtrN (n := 0) rfl rfl rfl rfl) (by kernel_rfl) rfl ?_
   refine l_split ?_ ?_
   ·intro hc3
    replace hc3 := of_decide_eq_true hc3
    refine l_valG (r_move (v := .bool _) rfl rfl) (by kernel_rfl) rfl ?_
    refine gI ?_
    refine l_valG (r_move (v := .slice _ _ _) rfl rfl) (by kernel_rfl) rfl ?_
    refine gI ?_
    refine l_valG (r_subN (n := 1) rfl rfl rfl (by omega) (by omega)) (by kernel_rfl) rfl ?_
    refine l_valG (r_indexAddrSl2 (n := (i - 1)) Tryz.underlying27 tyC3.size rfl rfl rfl (by omega)) (by kernel_rfl) rfl ?_
    refine l_loadFG hW tyC3 (v := .int .i64 (at_ l (i - 1))) (hc (i - 1) (by omega)) (by kernel_rfl) rfl rfl rfl ?_
    refine l_valG (r_leq rfl rfl rfl rfl) (by kernel_rfl) rfl ?_
    refine l_split ?_ ?_
    ·intro hc4
     replace hc4 := of_decide_eq_true hc4
     refine l_valG (r_pick (v := .bool _) rfl rfl rfl) (by kernel_rfl) rfl ?_
     refine kB ?_
     refine l_end (n_then ?_)
     refine c_true rfl ?_
     refine c_seq (c_reg ?_)
     refine bB ?_
     refine l_end (n_then (c_ret (r_block (r_then (r_then (r_block (r_then ?_)))))))
     refine ret_tmp (v := .bool (usersB l ((p2 s.d.toNat : Nat) : Int))) rfl ?_ ⟨rfl, hW.below⟩
     rw [users_no (i := i) (by omega) (by omega)]; rfl
    ·intro hc4
     replace hc4 := of_decide_eq_false hc4
     refine l_valG (r_pick (v := .bool _) rfl rfl rfl) (by kernel_rfl) rfl ?_
     refine kB ?_
     refine l_end (n_then ?_)
     refine c_false rfl ?_
     refine c_skip (n_block (n_then (c_reg ?_)))
     refine l_val (r_addN (n := 1) rfl rfl rfl (by omega)) rfl rfl ?_
     refine aI ?_
     refine l_end (n_then ?_)
     exact loop_next (i + 1) (by kernel_rfl) hW ⟨by omega, all_step hx.2 (by omega)⟩ (by omega)
   ·intro hc3
    replace hc3 := of_decide_eq_false hc3
    refine l_valG (r_move (v := .bool _) rfl rfl) (by kernel_rfl) rfl ?_
    refine lN ?_
    refine lN ?_
    refine lN ?_
    refine lN ?_
    refine lN ?_
    refine lN ?_
    refine lN ?_
    refine l_valG (r_pick (v := .bool _) rfl rfl rfl) (by kernel_rfl) rfl ?_
    refine kB ?_
    refine l_end (n_then ?_)
    refine c_false rfl ?_
    refine c_skip (n_block (n_then (c_reg ?_)))
    refine l_val (r_addN (n := 1) rfl rfl rfl (by omega)) rfl rfl ?_
    refine aI ?_
    refine l_end (n_then ?_)
    exact loop_next (i + 1) (by kernel_rfl) hW ⟨by omega, all_step hx.2 (by omega)⟩ (by omega)
  ·intro hc2
   replace hc2 := of_decide_eq_false hc2
   refine l_val (r_not rfl rfl) rfl rfl ?_
   refine aB ?_
   refine lN ?_
   refine lN ?_
   refine lN ?_
   refine lN ?_
   refine lN ?_
   refine lN ?_
   refine lN ?_
   refine lN ?_
   refine lN ?_
   refine lN ?_
   refine lN ?_
   refine kB ?_
   refine l_end (n_then ?_)
   refine c_true rfl ?_
   refine c_seq (c_reg ?_)
   refine bB ?_
   refine l_end (n_then (c_ret (r_block (r_then (r_then (r_block (r_then ?_)))))))
   refine ret_tmp (v := .bool (usersB l ((p2 s.d.toNat : Nat) : Int))) rfl ?_ ⟨rfl, hW.below⟩
   rw [users_no (i := i) (by omega) (by omega)]; rfl
 ·intro hc1
  replace hc1 := of_decide_eq_false hc1
  refine l_end (n_then (c_seq ?_))
  refine c_false rfl ?_
  refine c_exit (x_then (x_then ?_))
  refine x_hit ?_
  refine n_then (c_seq (c_reg ?_))
  refine bB ?_
  refine l_end (n_then (c_ret ?_))
  refine ret_tmp (v := .bool (usersB l ((p2 s.d.toNat : Nat) : Int))) rfl ?_ ⟨rfl, hW.below⟩
  rw [users_yes hn fun k hk => hx.2 k (by omega)]; rfl

set_option maxRecDepth 10000 in
/-- headend/cover.Knows -/
theorem g_KnowsY (s : Sc) (aa : Option Addr) (an ac : Nat) (l : List Int) (v x : Int) (hl : l.length ≤ 4294967296) (hs : schB s = true) : GivesR Tryz.prog 46 [.agg [.int .u8 s.k, .int .i64 s.d, .int .i64 s.g, .int .u64 s.p, .int .u64 s.q, .int .u64 s.r].toArray, .slice aa an ac, .agg [.int .i64 v, .int .i64 x].toArray].toArray (fun w => RdI w ⟨aa, an, ac⟩ l) (.tuple #[.bool (knB s l v x), .int .i64 (knE s l v x)]) := by
 refine givesR_of Tryz.func46 rfl (bs := [.agg [.int .u8 s.k, .int .i64 s.d, .int .i64 s.g, .int .u64 s.p, .int .u64 s.q, .int .u64 s.r].toArray, .slice aa an ac, .agg [.int .i64 v, .int .i64 x].toArray, undef, undef, undef, undef, undef, undef, undef, undef, undef, undef, undef, undef, undef, undef, undef, undef, undef, undef, undef, undef, undef, undef, undef, undef, undef, undef]) rfl ?_
 intro w hP hW
 obtain ⟨k1, k3, d0, d6, -⟩ := schB_iff.1 hs
 refine c_seq (c_reg ?_)
 refine xB hW ?_
 intro g1 W hW
 refine xB hW ?_
 intro g2 W hW
 refine bB ?_
 refine bI ?_
 refine l_end (n_then (c_seq (c_reg ?_)))
 refine dA hW 1 tyA26 ?_
 refine l_callR hW (g_enter s none 0 0 [] hs (by simp)) en51 ⟨Sl.Ok.no, rfl, Rd.nil _ _⟩ rfl rfl rfl rfl ?_
 intro W hW
 have he0 : entE s [] = 0 := entE_yes fun i hi => absurd hi (Nat.not_lt_zero i)
 rw [he0, entT_yes he0]
 refine l_val (r_move (v := .tuple _) rfl rfl) rfl rfl ?_
 refine l_val (r_extract (v := .agg _) rfl rfl rfl) rfl rfl ?_
 refine l_val (r_extract (v := .int _ _) rfl rfl rfl) rfl rfl ?_
 refine l_alloc hW tyZ106 rfl rfl rfl ?_
 intro g3 W hW
 refine sA hW 0 tyA106 ?_
 intro W hW
 refine bI ?_
 refine l_end (n_then (c_seq (c_seq (c_reg ?_))))
 refine aI ?_
 refine l_val (r_neq (b := false) rfl rfl rfl (by decide)) rfl rfl ?_
 refine l_end (n_then ?_)
 refine c_false rfl ?_
 refine c_skip (n_then (c_seq (c_seq (c_reg ?_))))
 refine dA hW 0 tyA106 ?_
 refine aS ?_
 refine l_callR hW (g_plist s d0 d6 aa an ac l hl) en52 (hP.past hW.below) rfl rfl rfl rfl ?_
 intro W hW
 refine l_split ?_ ?_
 ·intro hc1
  refine l_val (r_not rfl rfl) rfl rfl ?_
  refine l_end (n_then ?_)
  refine c_false rfl ?_
  refine c_skip (n_then (c_seq (c_seq (c_reg ?_))))
  refine dA hW 0 tyA106 ?_
  refine dA hW 1 tyA64 ?_
  refine l_call hW (g_psubset s _ _ d0 d6) en71 rfl rfl rfl rfl ?_
  intro W hW
  refine l_split ?_ ?_
  ·intro hc2
   refine l_val (r_not rfl rfl) rfl rfl ?_
   refine l_end (n_then ?_)
   refine c_false rfl ?_
   refine c_skip (n_then (c_seq (c_reg ?_)))
   refine aS ?_
   refine l_val (r_closure (vs := [.pointer (some ⟨g3, 0, none⟩), .pointer (some ⟨g2, 0, none⟩)]) rfl rfl) rfl rfl ?_
   refine l_callR hW (g_ContainsK s g3 g2 v x hs hc2 aa an ac l (fun i hi => users_at hc1 hi) hl) en90 ⟨⟨hW.at 0 rfl, hW.at 1 rfl⟩, hP.past hW.below⟩ rfl rfl rfl rfl ?_
   intro W hW
   refine bB ?_
   refine bI ?_
   refine l_end (n_then (c_ret ?_))
   refine ret_tmp2 rfl rfl rfl ?_
   exact ⟨by rw [knB_yes (knE_0 hs hc1 hc2), knE_0 hs hc1 hc2]; rfl, hW.below⟩
  ·intro hc2
   refine l_val (r_not rfl rfl) rfl rfl ?_
   refine l_end (n_then ?_)
   refine c_true rfl ?_
   refine c_seq (c_reg ?_)
   refine bB ?_
   refine bI ?_
   refine l_end (n_then (c_ret (r_then ?_)))
   refine ret_tmp2 rfl rfl rfl ?_
   exact ⟨by rw [knB_no (by rw [knE_x hs hc1 hc2]; decide), knE_x hs hc1 hc2]; rfl, hW.below⟩
 ·intro hc1
  refine l_val (r_not rfl rfl) rfl rfl ?_
  refine l_end (n_then ?_)
  refine c_true rfl ?_
  refine c_seq (c_reg ?_)
  refine bB ?_
  refine bI ?_
  refine l_end (n_then (c_ret (r_then ?_)))
  refine ret_tmp2 rfl rfl rfl ?_
  exact ⟨by rw [knB_no (by rw [knE_l hs hc1]; decide), knE_l hs hc1]; rfl, hW.below⟩

set_option maxRecDepth 10000 in
/-- headend/cover.Knows -/
theorem g_KnowsN (s : Sc) (aa : Option Addr) (an ac : Nat) (l : List Int) (v x : Int) (hs : schB s = false) : GivesR Tryz.prog 46 [.agg [.int .u8 s.k, .int .i64 s.d, .int .i64 s.g, .int .u64 s.p, .int .u64 s.q, .int .u64 s.r].toArray, .slice aa an ac, .agg [.int .i64 v, .int .i64 x].toArray].toArray (fun w => RdI w ⟨aa, an, ac⟩ l) (.tuple #[.bool (knB s l v x), .int .i64 (knE s l v x)]) := by
 refine givesR_of Tryz.func46 rfl (bs := [.agg [.int .u8 s.k, .int .i64 s.d, .int .i64 s.g, .int .u64 s.p, .int .u64 s.q, .int .u64 s.r].toArray, .slice aa an ac, .agg [.int .i64 v, .int .i64 x].toArray, undef, undef, undef, undef, undef, undef, undef, undef, undef, undef, undef, undef, undef, undef, undef, undef, undef, undef, undef, undef, undef, undef, undef, undef, undef, undef]) rfl ?_
 intro w hP hW
 refine c_seq (c_reg ?_)
 refine xB hW ?_
 intro g1 W hW
 refine xB hW ?_
 intro g2 W hW
 refine bB ?_
 refine bI ?_
 refine l_end (n_then (c_seq (c_reg ?_)))
 refine dA hW 1 tyA26 ?_
 refine l_callR hW (g_enterX s none 0 0 [] hs) en51 ⟨Sl.Ok.no, rfl, Rd.nil _ _⟩ rfl rfl rfl rfl ?_
 intro W hW
 refine l_val (r_move (v := .tuple _) rfl rfl) rfl rfl ?_
 refine l_val (r_extract (v := .agg _) rfl rfl rfl) rfl rfl ?_
 refine l_val (r_extract (v := .int _ _) rfl rfl rfl) rfl rfl ?_
 refine l_alloc hW tyZ106 rfl rfl rfl ?_
 intro g3 W hW
 refine sA hW 0 tyA106 ?_
 intro W hW
 refine bI ?_
 refine l_end (n_then (c_seq (c_seq (c_reg ?_))))
 refine aI ?_
 refine l_val (r_neq (b := true) rfl rfl rfl (by decide)) rfl rfl ?_
 refine l_end (n_then ?_)
 refine c_true rfl ?_
 refine c_seq (c_reg ?_)
 refine aI ?_
 refine bB ?_
 refine bI ?_
 refine l_end (n_then (c_ret (r_then ?_)))
 refine ret_tmp2 rfl rfl rfl ?_
 exact ⟨by rw [knB_no (by rw [knE_s hs]; decide), knE_s hs]; rfl, hW.below⟩

/-- what is known, of whatever scheme and subset -/
theorem g_Knows (s : Sc) (aa : Option Addr) (an ac : Nat) (l : List Int) (v x : Int) (hl : l.length ≤ 4294967296) : GivesR Tryz.prog 46 [.agg [.int .u8 s.k, .int .i64 s.d, .int .i64 s.g, .int .u64 s.p, .int .u64 s.q, .int .u64 s.r].toArray, .slice aa an ac, .agg [.int .i64 v, .int .i64 x].toArray].toArray (fun w => RdI w ⟨aa, an, ac⟩ l) (.tuple #[.bool (knB s l v x), .int .i64 (knE s l v x)]) := by
 cases hs : schB s with
 | true => exact g_KnowsY s aa an ac l v x hl hs
 | false => exact g_KnowsN s aa an ac l v x hs
end Go.Proofs.YtoegpalacppllaaGreat

/- The law: whatever the noise, twice as many queries and one more tell whether a box knows a subset. -/
namespace Go.Proofs.YtoegpalacppllaaGreat
open Go.RowKit Pl
open Tr Hn
/-- whether one of the first is known -/
def knA (b : Bo) (l : List (Int × Int)) (n : Nat) : Bool := (List.range n).any fun i => knB b.s b.l (qn l i) (qm l i)
theorem knA_succ (b : Bo) (l : List (Int × Int)) (n : Nat) : knA b l (n + 1) = (knA b l n || knB b.s b.l (qn l n) (qm l n)) := by simp [knA, List.range_succ]
/-- whether it played once -/
def quA (b : Bo) (o : List Bool) (n : Nat) : Bool := (List.range n).any fun j => plays (asks o 0 j b) o 0
theorem quA_succ (b : Bo) (o : List Bool) (n : Nat) : quA b o (n + 1) = (quA b o n || plays (asks o 0 n b) o 0) := by simp [quA, List.range_succ]
theorem knB_0 {s : Sc} {l : List Int} {v w : Int} (h : knB s l v w = true) : knE s l v w = 0 := by
 rw [knB, Bool.and_eq_true] at h
 exact of_decide_eq_true h.1
theorem knA_open {b : Bo} {l : List (Int × Int)} (hs : schB b.s = true) (hu : usersB b.l ((p2 b.s.d.toNat : Nat) : Int) = true) (hb : ∀ i, i < l.length → subB b.s (qn l i) (qm l i) = true) : ∀ {n : Nat}, n ≤ l.length → knA b l n = anyB (opens b l l.length) n
 | 0, _ => rfl
 | n + 1, h => by rw [knA_succ, anyB_succ, knA_open hs hu hb (n := n) (by omega), opens_getD (by omega), knB_yes (knE_0 hs hu (hb n (by omega)))]
theorem asks_same (o : List Bool) (f : Int) (b : Bo) : ∀ j, (asks o f j b).s = b.s ∧ (asks o f j b).l = b.l := fun j => by
 induction j with
 | zero => exact ⟨rfl, rfl⟩
 | succ j ih =>
  rw [asks_succ]
  unfold askd after
  (repeat' split) <;> exact ih
theorem opens_same {b c : Bo} {l : List (Int × Int)} (h : c.s = b.s ∧ c.l = b.l) (n : Nat) : opens c l n = opens b l n := by unfold opens; rw [h.1, h.2]
theorem dropQ {b : Base} {W : World} {x y : Blk} {X Y : List Blk} (h : Cl b (([x, y] ++ X) ++ Y) W) : Cl b ([y] ++ Y) W := h.pick (x :: X) (by classical exact List.perm_iff_count.2 fun y => by simp only [List.count_append, List.count_cons]; omega)
set_option maxRecDepth 10000 in
set_option maxHeartbeats 2000000 in
/-- headend/headendlaw08.TraceQuiet -/
theorem g_TraceQuiet (b : Bo) (t : Sl) (ra : Option Addr) (rn rc : Nat) (l : List (Int × Int)) : GivesR Tryz.prog 14 [.agg (boC b t).toArray, .slice ra rn rc].toArray (fun w => RdI w t b.l ∧ RdB w ⟨ra, rn, rc⟩ l) (.bool true) := by
 refine givesR_of Tryz.func14 rfl (bs := [.agg (boC b t).toArray, .slice ra rn rc, undef, undef, undef, undef, undef, undef, undef, undef, undef, undef, undef, undef, undef, undef, undef, undef, undef, undef, undef, undef, undef, undef, undef, undef, undef, undef, undef, undef, undef, undef, undef, undef, undef, undef, undef, undef, undef, undef, undef, undef, undef, undef, undef, undef, undef, undef, undef, undef, undef, undef, undef, undef, undef, undef, undef, undef, undef, undef, undef, undef, undef, undef, undef, undef, undef, undef, undef, undef, undef, undef, undef, undef, undef, undef, undef, undef, undef, undef, undef, undef, undef, undef, undef, undef, undef, undef, undef, undef, undef, undef, undef, undef, undef, undef, undef, undef, undef, undef, undef, undef, undef, undef, undef, undef, undef, undef, undef, undef, undef, undef]) rfl ?_
 intro w hP hW
 have hn := hP.1.len
 have hrn : rn = l.length := hP.2.len
 refine c_seq (c_reg ?_)
 refine xB hW ?_
 intro g1 W hW
 refine bB ?_
 refine l_end (n_then (c_seq (c_reg ?_)))
 refine l_callR hW (Pre := fun _ => True) (fun w _ => g_alive w) en31 trivial rfl rfl rfl rfl ?_
 intro W hW
 refine bB ?_
 refine l_end (n_then (c_seq (c_seq (c_reg ?_))))
 refine l_val (r_fieldAddr 6 Tryz.underlying31 rfl tyC27.size rfl rfl rfl) rfl rfl ?_
 refine dC hW 0 tyC27 ?_
 refine l_val (r_lenSlice Tryz.underlying27 rfl rfl) rfl rfl ?_
 refine l_val (r_gtrN (n := 100) rfl rfl rfl rfl) rfl rfl ?_
 refine l_split ?_ ?_
 ·intro hc1
  replace hc1 := of_decide_eq_true hc1
  refine aB ?_
  refine lN ?_
  refine lN ?_
  refine lN ?_
  refine kB ?_
  refine aB ?_
  refine lN ?_
  refine lN ?_
  refine lN ?_
  refine kB ?_
  refine aB ?_
  refine lN ?_
  refine lN ?_
  refine lN ?_
  refine kB ?_
  refine aB ?_
  refine lN ?_
  refine lN ?_
  refine lN ?_
  refine kB ?_
  refine aB ?_
  refine lN ?_
  refine lN ?_
  refine kB ?_
  refine l_end (n_then ?_)
  refine c_true rfl ?_
  refine c_seq (c_reg ?_)
  refine aB ?_
  refine bB ?_
  refine l_end (n_then (c_ret (r_then ?_)))
  refine ret_tmp (v := .bool true) rfl ?_ ⟨rfl, hW.below⟩
  rfl
 ·intro hc1
  replace hc1 := of_decide_eq_false hc1
  refine aB ?_
  refine l_valG (r_move (v := .slice _ _ _) rfl rfl) (by kernel_rfl) rfl ?_
  refine l_valG (r_lenSlice Tryz.underlying33 rfl rfl) (by kernel_rfl) rfl ?_
  refine l_valG (r_gtrN (n := 64) rfl rfl rfl rfl) (by kernel_rfl) rfl ?_
  refine l_split ?_ ?_
  ·intro hc2
   replace hc2 := of_decide_eq_true hc2
   refine kB ?_
   refine aB ?_
   refine lN ?_
   refine lN ?_
   refine lN ?_
   refine kB ?_
   refine aB ?_
   refine lN ?_
   refine lN ?_
   refine lN ?_
   refine kB ?_
   refine aB ?_
   refine lN ?_
   refine lN ?_
   refine lN ?_
   refine kB ?_
   refine aB ?_
   refine lN ?_
   refine lN ?_
   refine kB ?_
   refine l_end (n_then ?_)
   refine c_true rfl ?_
   refine c_seq (c_reg ?_)
   refine aB ?_
   refine bB ?_
   refine l_end (n_then (c_ret (r_then ?_)))
   refine ret_tmp (v := .bool true) rfl ?_ ⟨rfl, hW.below⟩
   rfl
  ·intro hc2
   replace hc2 := of_decide_eq_false hc2
   refine kB ?_
   refine aB ?_
   refine l_valG (r_fieldAddr 8 Tryz.underlying31 rfl tyC3.size rfl rfl rfl) (by kernel_rfl) rfl ?_
   refine dG hW 0 tyC3 ?_
   refine l_valG (r_lss rfl rfl rfl rfl) (by kernel_rfl) rfl ?_
   refine l_split ?_ ?_
   ·intro hc3
    replace hc3 := of_decide_eq_true hc3
    refine kB ?_
    refine aB ?_
    refine lN ?_
    refine lN ?_
    refine lN ?_
    refine kB ?_
    refine aB ?_
    refine lN ?_
    refine lN ?_
    refine lN ?_
    refine kB ?_
    refine aB ?_
    refine lN ?_
    refine lN ?_
    refine kB ?_
    refine l_end (n_then ?_)
    refine c_true rfl ?_
    refine c_seq (c_reg ?_)
    refine aB ?_
    refine bB ?_
    refine l_end (n_then (c_ret (r_then ?_)))
    refine ret_tmp (v := .bool true) rfl ?_ ⟨rfl, hW.below⟩
    rfl
   ·intro hc3
    replace hc3 := of_decide_eq_false hc3
    refine kB ?_
    refine aB ?_
    refine l_valG (r_fieldAddr 8 Tryz.underlying31 rfl tyC3.size rfl rfl rfl) (by kernel_rfl) rfl ?_
    refine dG hW 0 tyC3 ?_
    refine l_valG (r_gtr rfl rfl rfl rfl) (by kernel_rfl) rfl ?_
    refine l_split ?_ ?_
    ·intro hc4
     replace hc4 := of_decide_eq_true hc4
     refine kB ?_
     refine aB ?_
     refine lN ?_
     refine lN ?_
     refine lN ?_
     refine kB ?_
     refine aB ?_
     refine lN ?_
     refine lN ?_
     refine kB ?_
     refine l_end (n_then ?_)
     refine c_true rfl ?_
     refine c_seq (c_reg ?_)
     refine aB ?_
     refine bB ?_
     refine l_end (n_then (c_ret (r_then ?_)))
     refine ret_tmp (v := .bool true) rfl ?_ ⟨rfl, hW.below⟩
     rfl
    ·intro hc4
     replace hc4 := of_decide_eq_false hc4
     refine kB ?_
     refine aB ?_
     refine l_valG (r_fieldAddr 26 Tryz.underlying31 rfl tyC3.size rfl rfl rfl) (by kernel_rfl) rfl ?_
     refine dG hW 0 tyC3 ?_
     refine l_valG (r_gtr rfl rfl rfl rfl) (by kernel_rfl) rfl ?_
     refine l_split ?_ ?_
     ·intro hc5
      replace hc5 := of_decide_eq_true hc5
      refine kB ?_
      refine aB ?_
      refine lN ?_
      refine lN ?_
      refine kB ?_
      refine l_end (n_then ?_)
      refine c_true rfl ?_
      refine c_seq (c_reg ?_)
      refine aB ?_
      refine bB ?_
      refine l_end (n_then (c_ret (r_then ?_)))
      refine ret_tmp (v := .bool true) rfl ?_ ⟨rfl, hW.below⟩
      rfl
     ·intro hc5
      replace hc5 := of_decide_eq_false hc5
      have hl : b.l.length ≤ 100 := by omega
      have hq : l.length ≤ 100 := by omega
      have n0 : 0 ≤ b.n := by omega
      have n8 : b.n ≤ 8 := by omega
      refine kB ?_
      refine aB ?_
      refine l_valG (r_move (v := .bool _) rfl rfl) (by kernel_rfl) rfl ?_
      refine l_valG (r_not rfl rfl) (by kernel_rfl) rfl ?_
      refine kB ?_
      refine l_end (n_then ?_)
      refine c_false rfl ?_
      refine c_skip (n_then (c_seq (c_reg ?_)))
      refine bB ?_
      refine l_end (n_then (c_seq (c_seq (c_reg ?_))))
      refine aS ?_
      refine l_val (r_lenSlice Tryz.underlying33 rfl rfl) rfl rfl ?_
      refine aI ?_
      refine l_end (n_then (c_block ?_))
      refine c_loop (fun (z : Nat × Bool) (j : Nat → Value) => [.agg (boC b t).toArray, .slice ra rn rc, .pointer (some ⟨g1, 0, none⟩), j 3, .bool false, .bool true, .bool z.2, j 7, j 8, j 9, j 10, j 11, j 12, j 13, j 14, j 15, .bool true, .pointer (some ⟨g1, 6, none⟩), .slice t.a t.n t.c, .int .i64 (t.n : Int), .bool false, .bool false, .slice ra rn rc, .int .i64 (rn : Int), .bool false, .bool false, .bool false, .pointer (some ⟨g1, 8, none⟩), .int .i64 b.n, .bool false, .bool false, .bool false, .pointer (some ⟨g1, 8, none⟩), .int .i64 b.n, .bool false, .bool false, .bool false, .pointer (some ⟨g1, 26, none⟩), .int .i64 b.a, .bool false, .bool false, .bool false, .bool true, .bool false, .bool false, j 45, .slice ra rn rc, .int .i64 (rn : Int), .int .i64 (z.1 : Int), j 49, j 50, j 51, j 52, j 53, j 54, j 55, j 56, j 57, j 58, j 59, j 60, j 61, j 62, j 63, j 64, j 65, j 66, j 67, j 68, j 69, j 70, j 71, j 72, j 73, j 74, j 75, j 76, j 77, j 78, j 79, j 80, j 81, j 82, j 83, j 84, j 85, j 86, j 87, j 88, j 89, j 90, j 91, j 92, j 93, j 94, j 95, j 96, j 97, j 98, j 99, j 100, j 101, j 102, j 103, j 104, j 105, j 106, j 107, j 108, j 109, j 110, j 111]) (fun (z : Nat × Bool) => [⟨g1, (boC b t), 31⟩]) (fun (z : Nat × Bool) => z.1 ≤ rn ∧ z.2 = knA b l z.1) (fun (z : Nat × Bool) => rn - z.1) (0, false) (by kernel_rfl) hW ⟨Nat.zero_le _, rfl⟩ ?_
      intro z j W hx hW
      obtain ⟨hz1, hz2⟩ := hx
      refine c_seq (c_reg ?_)
      refine l_val (r_lssN rfl rfl rfl rfl) rfl rfl ?_
      refine l_split ?_ ?_
      ·intro hc6
       replace hc6 := of_decide_eq_true hc6
       obtain ⟨b1, o1, ha, hc⟩ := hP.2.ptr (by omega)
       refine l_end (n_then (c_seq ?_))
       refine c_true rfl ?_
       refine c_skip (n_then (c_seq (c_block (c_seq (c_reg ?_)))))
       refine l_val (r_indexAddrSlB (n := z.1) Tryz.underlying33 tyA64.size rfl (congrArg (fun a => Value.slice a rn rc) ha) rfl (by omega)) rfl rfl ?_
       refine l_loadF2 hW tyA64 (hc z.1 (by omega)).1 (hc z.1 (by omega)).2 rfl rfl rfl rfl ?_
       refine l_alloc hW tyZ64 rfl rfl rfl ?_
       intro g2 W hW
       refine sA hW 0 tyA64 ?_
       intro W hW
       refine l_end (n_then (c_seq (c_reg ?_)))
       refine l_val (r_fieldAddr 0 Tryz.underlying31 rfl tyA26.size rfl rfl rfl) rfl rfl ?_
       refine l_loadP hW 1 tyA26 rfl rfl rfl rfl rfl (by first | rfl | omega | (simp; done) | (simp; omega)) rfl ?_
       refine l_val (r_fieldAddr 6 Tryz.underlying31 rfl tyC27.size rfl rfl rfl) rfl rfl ?_
       refine dC hW 1 tyC27 ?_
       refine dA hW 0 tyA64 ?_
       refine l_callR hW (g_Knows b.s t.a t.n t.c b.l (qn l z.1) (qm l z.1) (by omega)) en46 (hP.1.past hW.below) rfl rfl rfl rfl ?_
       intro W hW
       refine l_val (r_move (v := .tuple _) rfl rfl) rfl rfl ?_
       refine l_val (r_extract (v := .bool _) rfl rfl rfl) rfl rfl ?_
       refine l_split ?_ ?_
       ·intro hc7
        refine l_val (r_extract (v := .int _ _) rfl rfl rfl) rfl rfl ?_
        refine bB ?_
        refine bI ?_
        refine l_end (n_then (c_reg ?_))
        refine aB ?_
        refine l_split ?_ ?_
        ·intro hc8
         refine aB ?_
         refine lN ?_
         refine lN ?_
         refine lN ?_
         refine lN ?_
         refine lN ?_
         refine kB ?_
         refine bB ?_
         refine l_end (n_block (n_then (c_reg ?_)))
         refine l_val (r_addN (n := 1) rfl rfl rfl (by omega)) rfl rfl ?_
         refine aI ?_
         refine l_end (n_then ?_)
         exact loop_next (z.1 + 1, true) (by kernel_rfl) (hW.drop 1) ⟨by simp only; omega, by simp only; rw [knA_succ, ← hz2, hc8]; rfl⟩ (by simp only; omega)
        ·intro hc8
         refine aB ?_
         refine l_valG (r_move (v := .bool _) rfl rfl) (by kernel_rfl) rfl ?_
         refine l_valG (r_move (v := .bool _) rfl rfl) (by kernel_rfl) rfl ?_
         refine gI ?_
         refine l_valG (r_eql rfl rfl rfl rfl) (by kernel_rfl) rfl ?_
         refine l_split ?_ ?_
         ·intro hc9
          replace hc9 := of_decide_eq_true hc9
          refine l_valG (r_pick (v := .bool _) rfl rfl rfl) (by kernel_rfl) rfl ?_
          refine kB ?_
          refine bB ?_
          refine l_end (n_block (n_then (c_reg ?_)))
          refine l_val (r_addN (n := 1) rfl rfl rfl (by omega)) rfl rfl ?_
          refine aI ?_
          refine l_end (n_then ?_)
          exact loop_next (z.1 + 1, true) (by kernel_rfl) (hW.drop 1) ⟨by simp only; omega, by simp only; rw [knA_succ, ← hz2, hc8, hc7]; rfl⟩ (by simp only; omega)
         ·intro hc9
          replace hc9 := of_decide_eq_false hc9
          exact absurd (knB_0 hc7) hc9
       ·intro hc7
        refine l_val (r_extract (v := .int _ _) rfl rfl rfl) rfl rfl ?_
        refine bB ?_
        refine bI ?_
        refine l_end (n_then (c_reg ?_))
        refine aB ?_
        refine l_split ?_ ?_
        ·intro hc10
         refine aB ?_
         refine lN ?_
         refine lN ?_
         refine lN ?_
         refine lN ?_
         refine lN ?_
         refine kB ?_
         refine bB ?_
         refine l_end (n_block (n_then (c_reg ?_)))
         refine l_val (r_addN (n := 1) rfl rfl rfl (by omega)) rfl rfl ?_
         refine aI ?_
         refine l_end (n_then ?_)
         exact loop_next (z.1 + 1, true) (by kernel_rfl) (hW.drop 1) ⟨by simp only; omega, by simp only; rw [knA_succ, ← hz2, hc10]; rfl⟩ (by simp only; omega)
        ·intro hc10
         refine aB ?_
         refine l_valG (r_move (v := .bool _) rfl rfl) (by kernel_rfl) rfl ?_
         refine l_valG (r_move (v := .bool _) rfl rfl) (by kernel_rfl) rfl ?_
         refine lN ?_
         refine lN ?_
         refine l_valG (r_pick (v := .bool _) rfl rfl rfl) (by kernel_rfl) rfl ?_
         refine kB ?_
         refine bB ?_
         refine l_end (n_block (n_then (c_reg ?_)))
         refine l_val (r_addN (n := 1) rfl rfl rfl (by omega)) rfl rfl ?_
         refine aI ?_
         refine l_end (n_then ?_)
         exact loop_next (z.1 + 1, false) (by kernel_rfl) (hW.drop 1) ⟨by simp only; omega, by simp only; rw [knA_succ, ← hz2, hc10, hc7]; rfl⟩ (by simp only; omega)
      ·intro hc6
       replace hc6 := of_decide_eq_false hc6
       have hz3 : z.2 = knA b l l.length := by rw [hz2, show z.1 = l.length by omega]
       refine l_end (n_then (c_seq ?_))
       refine c_false rfl ?_
       refine c_exit (x_then (x_then ?_))
       refine x_hit ?_
       refine n_then (c_seq (c_reg ?_))
       refine bB ?_
       refine l_end (n_then (c_seq (c_reg ?_)))
       refine l_val (r_fieldAddr 9 Tryz.underlying31 rfl tyC3.size rfl rfl rfl) rfl rfl ?_
       refine dC hW 0 tyC3 ?_
       refine l_val (r_gtr rfl rfl rfl rfl) rfl rfl ?_
       refine l_split ?_ ?_
       ·intro hc11
        replace hc11 := of_decide_eq_true hc11
        refine aB ?_
        refine l_valG (r_fieldAddr 27 Tryz.underlying31 rfl tyC3.size rfl rfl rfl) (by kernel_rfl) rfl ?_
        refine dG hW 0 tyC3 ?_
        refine l_valG (r_fieldAddr 9 Tryz.underlying31 rfl tyC3.size rfl rfl rfl) (by kernel_rfl) rfl ?_
        refine dG hW 0 tyC3 ?_
        refine l_valG (r_gtr rfl rfl rfl rfl) (by kernel_rfl) rfl ?_
        refine l_split ?_ ?_
        ·intro hc12
         replace hc12 := of_decide_eq_true hc12
         have hdd : 0 < b.v ∧ b.v < b.x := by omega
         refine kB ?_
         refine bB ?_
         refine l_end (n_then (c_seq (c_seq (c_reg ?_))))
         refine l_val (r_fieldAddr 8 Tryz.underlying31 rfl tyC3.size rfl rfl rfl) rfl rfl ?_
         refine dC hW 0 tyC3 ?_
         refine l_val (r_mulZ rfl rfl rfl (by omega)) rfl rfl ?_
         refine l_val (r_addZ rfl rfl rfl (by omega)) rfl rfl ?_
         refine aI ?_
         refine l_end (n_then (c_block ?_))
         refine c_loop (fun (y : Nat × Sl × List Blk × Bool) (j : Nat → Value) => [.agg (boC b t).toArray, .slice ra rn rc, .pointer (some ⟨g1, 0, none⟩), j 3, j 4, .bool true, .bool z.2, j 7, j 8, j 9, j 10, .bool y.2.2.2, .bool true, j 13, j 14, j 15, .bool true, .pointer (some ⟨g1, 6, none⟩), .slice t.a t.n t.c, .int .i64 (t.n : Int), .bool false, .bool false, .slice ra rn rc, .int .i64 (rn : Int), .bool false, .bool false, .bool false, .pointer (some ⟨g1, 8, none⟩), .int .i64 b.n, .bool false, .bool false, .bool false, .pointer (some ⟨g1, 8, none⟩), .int .i64 b.n, .bool false, .bool false, .bool false, .pointer (some ⟨g1, 26, none⟩), .int .i64 b.a, .bool false, .bool false, .bool false, .bool true, .bool false, .bool false, j 45, .slice ra rn rc, .int .i64 (rn : Int), j 48, .bool false, j 50, j 51, j 52, j 53, j 54, j 55, j 56, j 57, j 58, j 59, j 60, j 61, j 62, j 63, j 64, j 65, j 66, j 67, j 68, j 69, .pointer (some ⟨g1, 9, none⟩), .int .i64 b.v, .bool true, .bool true, .pointer (some ⟨g1, 27, none⟩), .int .i64 b.x, .pointer (some ⟨g1, 9, none⟩), .int .i64 b.v, .bool true, .bool true, .pointer (some ⟨g1, 8, none⟩), .int .i64 b.n, .int .i64 ((2 : Int) * b.n), .int .i64 (2 * b.n + 1), .int .i64 (y.1 : Int), j 85, j 86, j 87, j 88, j 89, j 90, j 91, j 92, j 93, j 94, j 95, j 96, j 97, j 98, j 99, j 100, j 101, j 102, j 103, j 104, j 105, j 106, j 107, j 108, j 109, j 110, j 111]) (fun (y : Nat × Sl × List Blk × Bool) => [⟨g1, (boC (asks (opens b l l.length) 0 y.1 b) y.2.1), 31⟩] ++ y.2.2.1) (fun (y : Nat × Sl × List Blk × Bool) => y.1 ≤ 2 * b.n.toNat + 1 ∧ (∀ (L : List Blk) (W : World), Cl (base w) L W → List.Sublist y.2.2.1 L → RdI W y.2.1 b.l) ∧ y.2.2.2 = quA b (opens b l l.length) y.1 ∧ (y.1 = 0 ∨ askE b l 0 = 0)) (fun (y : Nat × Sl × List Blk × Bool) => (2 * b.n.toNat + 1) - y.1) (0, t, [], false) (by kernel_rfl) (show Cl _ ([_] ++ []) _ from hW) ⟨Nat.zero_le _, fun L W hC _ => hP.1.past hC.below, rfl, .inl rfl⟩ ?_
         intro y j W hx hW
         obtain ⟨hy1, hy2, hy3, hy4⟩ := hx
         refine c_seq (c_reg ?_)
         refine l_val (r_lss rfl rfl rfl rfl) rfl rfl ?_
         refine l_split ?_ ?_
         ·intro hc13
          replace hc13 := of_decide_eq_true hc13
          refine l_end (n_then (c_seq ?_))
          refine c_true rfl ?_
          refine c_skip (n_then (c_seq (c_block (c_seq (c_reg ?_)))))
          refine dA hW 0 tyA31 ?_
          refine aS ?_
          have hsm0 := asks_same (opens b l l.length) 0 b y.1
          refine l_callX hW (g_Ask (asks (opens b l l.length) 0 y.1 b) y.2.1 ra rn rc l 0 (by rw [hsm0.2]; exact hl) hq) en34 ⟨by rw [hsm0.2]; exact hy2 _ _ hW (List.sublist_append_right _ _), hP.2.past hW.below⟩ rfl rfl rfl rfl ?_
          rintro _ B9 W ⟨s9, rfl, n9⟩ hW
          refine l_val (r_move (v := .tuple _) rfl rfl) rfl rfl ?_
          refine l_val (r_extract (v := .agg _) rfl rfl rfl) rfl rfl ?_
          refine l_val (r_extract (v := .bool _) rfl rfl rfl) rfl rfl ?_
          refine l_split ?_ ?_
          ·intro hc14
           refine l_val (r_extract (v := .int _ _) rfl rfl rfl) rfl rfl ?_
           refine l_alloc hW tyZ31 rfl rfl rfl ?_
           intro g3 W hW
           refine sA hW 0 tyA31 ?_
           intro W hW
           refine bB ?_
           refine bI ?_
           refine l_end (n_then (c_seq (c_seq (c_reg ?_))))
           refine aI ?_
           refine l_val (r_neq rfl rfl rfl rfl) rfl rfl ?_
           refine l_split ?_ ?_
           ·intro hc15
            replace hc15 := of_decide_eq_true hc15
            refine l_end (n_then ?_)
            refine c_true rfl ?_
            refine c_seq (c_reg ?_)
            refine aB ?_
            refine bB ?_
            refine l_end (n_then (c_ret (r_then (r_block (r_then (r_then (r_block (r_then ?_))))))))
            refine ret_tmp (v := .bool true) rfl ?_ ⟨rfl, hW.below⟩
            rfl
           ·intro hc15
            replace hc15 := of_decide_eq_false hc15
            have he : askE (asks (opens b l l.length) 0 y.1 b) l 0 = 0 := by omega
            have hsm := asks_same (opens b l l.length) 0 b y.1
            have hop : opens (asks (opens b l l.length) 0 y.1 b) l l.length = (opens b l l.length) := opens_same hsm _
            have hx1 : askX (asks (opens b l l.length) 0 y.1 b) l 0 = asks (opens b l l.length) 0 (y.1 + 1) b := by rw [(askX_yes he).1, hop, asks_succ]
            have hx2 : askP (asks (opens b l l.length) 0 y.1 b) l 0 = plays (asks (opens b l l.length) 0 y.1 b) (opens b l l.length) 0 := by rw [(askX_yes he).2, hop]
            have he0 : askE b l 0 = 0 := hy4.elim (fun h => by rw [h] at he; exact he) id
            refine l_end (n_then ?_)
            refine c_false rfl ?_
            refine c_skip (n_then (c_seq (c_reg ?_)))
            refine aB ?_
            refine l_split ?_ ?_
            ·intro hc16
             refine aB ?_
             refine lN ?_
             refine kB ?_
             refine bB ?_
             refine l_end (n_then (c_reg ?_))
             refine dA hW 0 tyA31 ?_
             refine sA hW 1 tyA31 ?_
             intro W hW
             refine l_end (n_block (n_then (c_reg ?_)))
             refine l_val (r_addN (n := 1) rfl rfl rfl (by omega)) rfl rfl ?_
             refine aI ?_
             refine l_end (n_then ?_)
             rw [hx1] at hW
             exact loop_next (y.1 + 1, s9, B9, true) (by kernel_rfl) (dropQ (show Cl _ (([_, _] ++ y.2.2.1) ++ B9) _ from hW)) ⟨by simp only; omega, fun L W hC hs => by have q := n9.rep.at hC hs; rwa [hx1, (asks_same _ _ _ _).2] at q, by simp only; rw [quA_succ, ← hy3, hc16]; rfl, .inr he0⟩ (by simp only; omega)
            ·intro hc16
             refine aB ?_
             refine l_valG (r_move (v := .bool _) rfl rfl) (by kernel_rfl) rfl ?_
             refine kB ?_
             refine bB ?_
             refine l_end (n_then (c_reg ?_))
             refine dA hW 0 tyA31 ?_
             refine sA hW 1 tyA31 ?_
             intro W hW
             refine l_end (n_block (n_then (c_reg ?_)))
             refine l_val (r_addN (n := 1) rfl rfl rfl (by omega)) rfl rfl ?_
             refine aI ?_
             refine l_end (n_then ?_)
             rw [hx1] at hW
             exact loop_next (y.1 + 1, s9, B9, true) (by kernel_rfl) (dropQ (show Cl _ (([_, _] ++ y.2.2.1) ++ B9) _ from hW)) ⟨by simp only; omega, fun L W hC hs => by have q := n9.rep.at hC hs; rwa [hx1, (asks_same _ _ _ _).2] at q, by simp only; rw [quA_succ, ← hy3, hc16, ← hx2, hc14]; rfl, .inr he0⟩ (by simp only; omega)
          ·intro hc14
           refine l_val (r_extract (v := .int _ _) rfl rfl rfl) rfl rfl ?_
           refine l_alloc hW tyZ31 rfl rfl rfl ?_
           intro g4 W hW
           refine sA hW 0 tyA31 ?_
           intro W hW
           refine bB ?_
           refine bI ?_
           refine l_end (n_then (c_seq (c_seq (c_reg ?_))))
           refine aI ?_
           refine l_val (r_neq rfl rfl rfl rfl) rfl rfl ?_
           refine l_split ?_ ?_
           ·intro hc17
            replace hc17 := of_decide_eq_true hc17
            refine l_end (n_then ?_)
            refine c_true rfl ?_
            refine c_seq (c_reg ?_)
            refine aB ?_
            refine bB ?_
            refine l_end (n_then (c_ret (r_then (r_block (r_then (r_then (r_block (r_then ?_))))))))
            refine ret_tmp (v := .bool true) rfl ?_ ⟨rfl, hW.below⟩
            rfl
           ·intro hc17
            replace hc17 := of_decide_eq_false hc17
            have he : askE (asks (opens b l l.length) 0 y.1 b) l 0 = 0 := by omega
            have hsm := asks_same (opens b l l.length) 0 b y.1
            have hop : opens (asks (opens b l l.length) 0 y.1 b) l l.length = (opens b l l.length) := opens_same hsm _
            have hx1 : askX (asks (opens b l l.length) 0 y.1 b) l 0 = asks (opens b l l.length) 0 (y.1 + 1) b := by rw [(askX_yes he).1, hop, asks_succ]
            have hx2 : askP (asks (opens b l l.length) 0 y.1 b) l 0 = plays (asks (opens b l l.length) 0 y.1 b) (opens b l l.length) 0 := by rw [(askX_yes he).2, hop]
            have he0 : askE b l 0 = 0 := hy4.elim (fun h => by rw [h] at he; exact he) id
            refine l_end (n_then ?_)
            refine c_false rfl ?_
            refine c_skip (n_then (c_seq (c_reg ?_)))
            refine aB ?_
            refine l_split ?_ ?_
            ·intro hc18
             refine aB ?_
             refine lN ?_
             refine kB ?_
             refine bB ?_
             refine l_end (n_then (c_reg ?_))
             refine dA hW 0 tyA31 ?_
             refine sA hW 1 tyA31 ?_
             intro W hW
             refine l_end (n_block (n_then (c_reg ?_)))
             refine l_val (r_addN (n := 1) rfl rfl rfl (by omega)) rfl rfl ?_
             refine aI ?_
             refine l_end (n_then ?_)
             rw [hx1] at hW
             exact loop_next (y.1 + 1, s9, B9, true) (by kernel_rfl) (dropQ (show Cl _ (([_, _] ++ y.2.2.1) ++ B9) _ from hW)) ⟨by simp only; omega, fun L W hC hs => by have q := n9.rep.at hC hs; rwa [hx1, (asks_same _ _ _ _).2] at q, by simp only; rw [quA_succ, ← hy3, hc18]; rfl, .inr he0⟩ (by simp only; omega)
            ·intro hc18
             refine aB ?_
             refine l_valG (r_move (v := .bool _) rfl rfl) (by kernel_rfl) rfl ?_
             refine kB ?_
             refine bB ?_
             refine l_end (n_then (c_reg ?_))
             refine dA hW 0 tyA31 ?_
             refine sA hW 1 tyA31 ?_
             intro W hW
             refine l_end (n_block (n_then (c_reg ?_)))
             refine l_val (r_addN (n := 1) rfl rfl rfl (by omega)) rfl rfl ?_
             refine aI ?_
             refine l_end (n_then ?_)
             rw [hx1] at hW
             exact loop_next (y.1 + 1, s9, B9, false) (by kernel_rfl) (dropQ (show Cl _ (([_, _] ++ y.2.2.1) ++ B9) _ from hW)) ⟨by simp only; omega, fun L W hC hs => by have q := n9.rep.at hC hs; rwa [hx1, (asks_same _ _ _ _).2] at q, by simp only; rw [quA_succ, ← hy3, hc18, ← hx2, hc14]; rfl, .inr he0⟩ (by simp only; omega)
         ·intro hc13
          replace hc13 := of_decide_eq_false hc13
          have he : askE b l 0 = 0 := hy4.resolve_left (by omega)
          obtain ⟨c1, c2, -, -, c5⟩ := askE_ok he
          obtain ⟨hs, hu, hrest⟩ := chkB_ok (show ¬ chkB b ≠ 0 by omega)
          obtain ⟨hll, hsub⟩ := subsE_all.1 c2
          have hqs : y.2.2.2 = (anyB (opens b l l.length) l.length && !decide (0 < b.v ∧ b.v < b.x)) := by
           rw [hy3, show y.1 = 2 * b.n.toNat + 1 by omega]
           have q := quiet_step (opens b l l.length) ⟨n0, n8, by omega, by omega⟩ (N := 2 * b.n.toNat + 1) (by omega)
           rw [opens_len] at q
           exact q
          have hzz : z.2 = anyB (opens b l l.length) l.length := by rw [hz3, knA_open hs hu hsub (Nat.le_refl _)]
          refine l_end (n_then (c_seq ?_))
          refine c_false rfl ?_
          refine c_exit (x_then (x_then ?_))
          refine x_hit ?_
          refine n_then (c_seq (c_reg ?_))
          refine aB ?_
          refine aB ?_
          refine l_valG (r_move (v := .bool _) rfl rfl) (by kernel_rfl) rfl ?_
          refine l_valG (r_move (v := .bool _) rfl rfl) (by kernel_rfl) rfl ?_
          refine l_split ?_ ?_
          ·intro hc19
           have hpl : y.2.2.2 = false := by rw [hqs, ← hzz, hc19, decide_eq_true hdd]; rfl
           refine l_valG (r_move (v := .bool _) rfl rfl) (by kernel_rfl) rfl ?_
           refine l_valG (r_move (v := .bool _) rfl rfl) (by kernel_rfl) rfl ?_
           refine l_valG (r_not rfl rfl) (by kernel_rfl) rfl ?_
           refine l_valG (r_pick (v := .bool _) rfl rfl rfl) (by kernel_rfl) rfl ?_
           refine l_valG (r_eqlBool (c := true) Tryz.underlying4 rfl rfl rfl (by rw [hpl]; rfl)) (by kernel_rfl) rfl ?_
           refine kB ?_
           refine bB ?_
           refine l_end (n_then (c_ret ?_))
           refine ret_tmp (v := .bool true) rfl ?_ ⟨rfl, hW.below⟩
           rfl
          ·intro hc19
           have hpl : y.2.2.2 = false := by rw [hqs, ← hzz, hc19, decide_eq_true hdd]; rfl
           refine l_valG (r_move (v := .bool _) rfl rfl) (by kernel_rfl) rfl ?_
           refine lN ?_
           refine lN ?_
           refine l_valG (r_pick (v := .bool _) rfl rfl rfl) (by kernel_rfl) rfl ?_
           refine l_valG (r_eqlBool (c := true) Tryz.underlying4 rfl rfl rfl (by rw [hpl]; rfl)) (by kernel_rfl) rfl ?_
           refine kB ?_
           refine bB ?_
           refine l_end (n_then (c_ret ?_))
           refine ret_tmp (v := .bool true) rfl ?_ ⟨rfl, hW.below⟩
           rfl
        ·intro hc12
         replace hc12 := of_decide_eq_false hc12
         have hdd : ¬ (0 < b.v ∧ b.v < b.x) := by omega
         refine kB ?_
         refine bB ?_
         refine l_end (n_then (c_seq (c_seq (c_reg ?_))))
         refine l_val (r_fieldAddr 8 Tryz.underlying31 rfl tyC3.size rfl rfl rfl) rfl rfl ?_
         refine dC hW 0 tyC3 ?_
         refine l_val (r_mulZ rfl rfl rfl (by omega)) rfl rfl ?_
         refine l_val (r_addZ rfl rfl rfl (by omega)) rfl rfl ?_
         refine aI ?_
         refine l_end (n_then (c_block ?_))
         refine c_loop (fun (y : Nat × Sl × List Blk × Bool) (j : Nat → Value) => [.agg (boC b t).toArray, .slice ra rn rc, .pointer (some ⟨g1, 0, none⟩), j 3, j 4, .bool true, .bool z.2, j 7, j 8, j 9, j 10, .bool y.2.2.2, .bool false, j 13, j 14, j 15, .bool true, .pointer (some ⟨g1, 6, none⟩), .slice t.a t.n t.c, .int .i64 (t.n : Int), .bool false, .bool false, .slice ra rn rc, .int .i64 (rn : Int), .bool false, .bool false, .bool false, .pointer (some ⟨g1, 8, none⟩), .int .i64 b.n, .bool false, .bool false, .bool false, .pointer (some ⟨g1, 8, none⟩), .int .i64 b.n, .bool false, .bool false, .bool false, .pointer (some ⟨g1, 26, none⟩), .int .i64 b.a, .bool false, .bool false, .bool false, .bool true, .bool false, .bool false, j 45, .slice ra rn rc, .int .i64 (rn : Int), j 48, .bool false, j 50, j 51, j 52, j 53, j 54, j 55, j 56, j 57, j 58, j 59, j 60, j 61, j 62, j 63, j 64, j 65, j 66, j 67, j 68, j 69, .pointer (some ⟨g1, 9, none⟩), .int .i64 b.v, .bool true, .bool true, .pointer (some ⟨g1, 27, none⟩), .int .i64 b.x, .pointer (some ⟨g1, 9, none⟩), .int .i64 b.v, .bool false, .bool false, .pointer (some ⟨g1, 8, none⟩), .int .i64 b.n, .int .i64 ((2 : Int) * b.n), .int .i64 (2 * b.n + 1), .int .i64 (y.1 : Int), j 85, j 86, j 87, j 88, j 89, j 90, j 91, j 92, j 93, j 94, j 95, j 96, j 97, j 98, j 99, j 100, j 101, j 102, j 103, j 104, j 105, j 106, j 107, j 108, j 109, j 110, j 111]) (fun (y : Nat × Sl × List Blk × Bool) => [⟨g1, (boC (asks (opens b l l.length) 0 y.1 b) y.2.1), 31⟩] ++ y.2.2.1) (fun (y : Nat × Sl × List Blk × Bool) => y.1 ≤ 2 * b.n.toNat + 1 ∧ (∀ (L : List Blk) (W : World), Cl (base w) L W → List.Sublist y.2.2.1 L → RdI W y.2.1 b.l) ∧ y.2.2.2 = quA b (opens b l l.length) y.1 ∧ (y.1 = 0 ∨ askE b l 0 = 0)) (fun (y : Nat × Sl × List Blk × Bool) => (2 * b.n.toNat + 1) - y.1) (0, t, [], false) (by kernel_rfl) (show Cl _ ([_] ++ []) _ from hW) ⟨Nat.zero_le _, fun L W hC _ => hP.1.past hC.below, rfl, .inl rfl⟩ ?_
         intro y j W hx hW
         obtain ⟨hy1, hy2, hy3, hy4⟩ := hx
         refine c_seq (c_reg ?_)
         refine l_val (r_lss rfl rfl rfl rfl) rfl rfl ?_
         refine l_split ?_ ?_
         ·intro hc20
          replace hc20 := of_decide_eq_true hc20
          refine l_end (n_then (c_seq ?_))
          refine c_true rfl ?_
          refine c_skip (n_then (c_seq (c_block (c_seq (c_reg ?_)))))
          refine dA hW 0 tyA31 ?_
          refine aS ?_
          have hsm0 := asks_same (opens b l l.length) 0 b y.1
          refine l_callX hW (g_Ask (asks (opens b l l.length) 0 y.1 b) y.2.1 ra rn rc l 0 (by rw [hsm0.2]; exact hl) hq) en34 ⟨by rw [hsm0.2]; exact hy2 _ _ hW (List.sublist_append_right _ _), hP.2.past hW.below⟩ rfl rfl rfl rfl ?_
          rintro _ B9 W ⟨s9, rfl, n9⟩ hW
          refine l_val (r_move (v := .tuple _) rfl rfl) rfl rfl ?_
          refine l_val (r_extract (v := .agg _) rfl rfl rfl) rfl rfl ?_
          refine l_val (r_extract (v := .bool _) rfl rfl rfl) rfl rfl ?_
          refine l_split ?_ ?_
          ·intro hc21
           refine l_val (r_extract (v := .int _ _) rfl rfl rfl) rfl rfl ?_
           refine l_alloc hW tyZ31 rfl rfl rfl ?_
           intro g5 W hW
           refine sA hW 0 tyA31 ?_
           intro W hW
           refine bB ?_
           refine bI ?_
           refine l_end (n_then (c_seq (c_seq (c_reg ?_))))
           refine aI ?_
           refine l_val (r_neq rfl rfl rfl rfl) rfl rfl ?_
           refine l_split ?_ ?_
           ·intro hc22
            replace hc22 := of_decide_eq_true hc22
            refine l_end (n_then ?_)
            refine c_true rfl ?_
            refine c_seq (c_reg ?_)
            refine aB ?_
            refine bB ?_
            refine l_end (n_then (c_ret (r_then (r_block (r_then (r_then (r_block (r_then ?_))))))))
            refine ret_tmp (v := .bool true) rfl ?_ ⟨rfl, hW.below⟩
            rfl
           ·intro hc22
            replace hc22 := of_decide_eq_false hc22
            have he : askE (asks (opens b l l.length) 0 y.1 b) l 0 = 0 := by omega
            have hsm := asks_same (opens b l l.length) 0 b y.1
            have hop : opens (asks (opens b l l.length) 0 y.1 b) l l.length = (opens b l l.length) := opens_same hsm _
            have hx1 : askX (asks (opens b l l.length) 0 y.1 b) l 0 = asks (opens b l l.length) 0 (y.1 + 1) b := by rw [(askX_yes he).1, hop, asks_succ]
            have hx2 : askP (asks (opens b l l.length) 0 y.1 b) l 0 = plays (asks (opens b l l.length) 0 y.1 b) (opens b l l.length) 0 := by rw [(askX_yes he).2, hop]
            have he0 : askE b l 0 = 0 := hy4.elim (fun h => by rw [h] at he; exact he) id
            refine l_end (n_then ?_)
            refine c_false rfl ?_
            refine c_skip (n_then (c_seq (c_reg ?_)))
            refine aB ?_
            refine l_split ?_ ?_
            ·intro hc23
             refine aB ?_
             refine lN ?_
             refine kB ?_
             refine bB ?_
             refine l_end (n_then (c_reg ?_))
             refine dA hW 0 tyA31 ?_
             refine sA hW 1 tyA31 ?_
             intro W hW
             refine l_end (n_block (n_then (c_reg ?_)))
             refine l_val (r_addN (n := 1) rfl rfl rfl (by omega)) rfl rfl ?_
             refine aI ?_
             refine l_end (n_then ?_)
             rw [hx1] at hW
             exact loop_next (y.1 + 1, s9, B9, true) (by kernel_rfl) (dropQ (show Cl _ (([_, _] ++ y.2.2.1) ++ B9) _ from hW)) ⟨by simp only; omega, fun L W hC hs => by have q := n9.rep.at hC hs; rwa [hx1, (asks_same _ _ _ _).2] at q, by simp only; rw [quA_succ, ← hy3, hc23]; rfl, .inr he0⟩ (by simp only; omega)
            ·intro hc23
             refine aB ?_
             refine l_valG (r_move (v := .bool _) rfl rfl) (by kernel_rfl) rfl ?_
             refine kB ?_
             refine bB ?_
             refine l_end (n_then (c_reg ?_))
             refine dA hW 0 tyA31 ?_
             refine sA hW 1 tyA31 ?_
             intro W hW
             refine l_end (n_block (n_then (c_reg ?_)))
             refine l_val (r_addN (n := 1) rfl rfl rfl (by omega)) rfl rfl ?_
             refine aI ?_
             refine l_end (n_then ?_)
             rw [hx1] at hW
             exact loop_next (y.1 + 1, s9, B9, true) (by kernel_rfl) (dropQ (show Cl _ (([_, _] ++ y.2.2.1) ++ B9) _ from hW)) ⟨by simp only; omega, fun L W hC hs => by have q := n9.rep.at hC hs; rwa [hx1, (asks_same _ _ _ _).2] at q, by simp only; rw [quA_succ, ← hy3, hc23, ← hx2, hc21]; rfl, .inr he0⟩ (by simp only; omega)
          ·intro hc21
           refine l_val (r_extract (v := .int _ _) rfl rfl rfl) rfl rfl ?_
           refine l_alloc hW tyZ31 rfl rfl rfl ?_
           intro g6 W hW
           refine sA hW 0 tyA31 ?_
           intro W hW
           refine bB ?_
           refine bI ?_
           refine l_end (n_then (c_seq (c_seq (c_reg ?_))))
           refine aI ?_
           refine l_val (r_neq rfl rfl rfl rfl) rfl rfl ?_
           refine l_split ?_ ?_
           ·intro hc24
            replace hc24 := of_decide_eq_true hc24
            refine l_end (n_then ?_)
            refine c_true rfl ?_
            refine c_seq (c_reg ?_)
            refine aB ?_
            refine bB ?_
            refine l_end (n_then (c_ret (r_then (r_block (r_then (r_then (r_block (r_then ?_))))))))
            refine ret_tmp (v := .bool true) rfl ?_ ⟨rfl, hW.below⟩
            rfl
           ·intro hc24
            replace hc24 := of_decide_eq_false hc24
            have he : askE (asks (opens b l l.length) 0 y.1 b) l 0 = 0 := by omega
            have hsm := asks_same (opens b l l.length) 0 b y.1
            have hop : opens (asks (opens b l l.length) 0 y.1 b) l l.length = (opens b l l.length) := opens_same hsm _
            have hx1 : askX (asks (opens b l l.length) 0 y.1 b) l 0 = asks (opens b l l.length) 0 (y.1 + 1) b := by rw [(askX_yes he).1, hop, asks_succ]
            have hx2 : askP (asks (opens b l l.length) 0 y.1 b) l 0 = plays (asks (opens b l l.length) 0 y.1 b) (opens b l l.length) 0 := by rw [(askX_yes he).2, hop]
            have he0 : askE b l 0 = 0 := hy4.elim (fun h => by rw [h] at he; exact he) id
            refine l_end (n_then ?_)
            refine c_false rfl ?_
            refine c_skip (n_then (c_seq (c_reg ?_)))
            refine aB ?_
            refine l_split ?_ ?_
            ·intro hc25
             refine aB ?_
             refine lN ?_
             refine kB ?_
             refine bB ?_
             refine l_end (n_then (c_reg ?_))
             refine dA hW 0 tyA31 ?_
             refine sA hW 1 tyA31 ?_
             intro W hW
             refine l_end (n_block (n_then (c_reg ?_)))
             refine l_val (r_addN (n := 1) rfl rfl rfl (by omega)) rfl rfl ?_
             refine aI ?_
             refine l_end (n_then ?_)
             rw [hx1] at hW
             exact loop_next (y.1 + 1, s9, B9, true) (by kernel_rfl) (dropQ (show Cl _ (([_, _] ++ y.2.2.1) ++ B9) _ from hW)) ⟨by simp only; omega, fun L W hC hs => by have q := n9.rep.at hC hs; rwa [hx1, (asks_same _ _ _ _).2] at q, by simp only; rw [quA_succ, ← hy3, hc25]; rfl, .inr he0⟩ (by simp only; omega)
            ·intro hc25
             refine aB ?_
             refine l_valG (r_move (v := .bool _) rfl rfl) (by kernel_rfl) rfl ?_
             refine kB ?_
             refine bB ?_
             refine l_end (n_then (c_reg ?_))
             refine dA hW 0 tyA31 ?_
             refine sA hW 1 tyA31 ?_
             intro W hW
             refine l_end (n_block (n_then (c_reg ?_)))
             refine l_val (r_addN (n := 1) rfl rfl rfl (by omega)) rfl rfl ?_
             refine aI ?_
             refine l_end (n_then ?_)
             rw [hx1] at hW
             exact loop_next (y.1 + 1, s9, B9, false) (by kernel_rfl) (dropQ (show Cl _ (([_, _] ++ y.2.2.1) ++ B9) _ from hW)) ⟨by simp only; omega, fun L W hC hs => by have q := n9.rep.at hC hs; rwa [hx1, (asks_same _ _ _ _).2] at q, by simp only; rw [quA_succ, ← hy3, hc25, ← hx2, hc21]; rfl, .inr he0⟩ (by simp only; omega)
         ·intro hc20
          replace hc20 := of_decide_eq_false hc20
          have he : askE b l 0 = 0 := hy4.resolve_left (by omega)
          obtain ⟨c1, c2, -, -, c5⟩ := askE_ok he
          obtain ⟨hs, hu, hrest⟩ := chkB_ok (show ¬ chkB b ≠ 0 by omega)
          obtain ⟨hll, hsub⟩ := subsE_all.1 c2
          have hqs : y.2.2.2 = (anyB (opens b l l.length) l.length && !decide (0 < b.v ∧ b.v < b.x)) := by
           rw [hy3, show y.1 = 2 * b.n.toNat + 1 by omega]
           have q := quiet_step (opens b l l.length) ⟨n0, n8, by omega, by omega⟩ (N := 2 * b.n.toNat + 1) (by omega)
           rw [opens_len] at q
           exact q
          have hzz : z.2 = anyB (opens b l l.length) l.length := by rw [hz3, knA_open hs hu hsub (Nat.le_refl _)]
          refine l_end (n_then (c_seq ?_))
          refine c_false rfl ?_
          refine c_exit (x_then (x_then ?_))
          refine x_hit ?_
          refine n_then (c_seq (c_reg ?_))
          refine aB ?_
          refine aB ?_
          refine l_valG (r_move (v := .bool _) rfl rfl) (by kernel_rfl) rfl ?_
          refine l_valG (r_move (v := .bool _) rfl rfl) (by kernel_rfl) rfl ?_
          refine l_split ?_ ?_
          ·intro hc26
           have hpl : y.2.2.2 = true := by rw [hqs, ← hzz, hc26, decide_eq_false hdd]; rfl
           refine l_valG (r_move (v := .bool _) rfl rfl) (by kernel_rfl) rfl ?_
           refine l_valG (r_move (v := .bool _) rfl rfl) (by kernel_rfl) rfl ?_
           refine l_valG (r_not rfl rfl) (by kernel_rfl) rfl ?_
           refine l_valG (r_pick (v := .bool _) rfl rfl rfl) (by kernel_rfl) rfl ?_
           refine l_valG (r_eqlBool (c := true) Tryz.underlying4 rfl rfl rfl (by rw [hpl]; rfl)) (by kernel_rfl) rfl ?_
           refine kB ?_
           refine bB ?_
           refine l_end (n_then (c_ret ?_))
           refine ret_tmp (v := .bool true) rfl ?_ ⟨rfl, hW.below⟩
           rfl
          ·intro hc26
           have hpl : y.2.2.2 = false := by rw [hqs, ← hzz, hc26, decide_eq_false hdd]; rfl
           refine l_valG (r_move (v := .bool _) rfl rfl) (by kernel_rfl) rfl ?_
           refine lN ?_
           refine lN ?_
           refine l_valG (r_pick (v := .bool _) rfl rfl rfl) (by kernel_rfl) rfl ?_
           refine l_valG (r_eqlBool (c := true) Tryz.underlying4 rfl rfl rfl (by rw [hpl]; rfl)) (by kernel_rfl) rfl ?_
           refine kB ?_
           refine bB ?_
           refine l_end (n_then (c_ret ?_))
           refine ret_tmp (v := .bool true) rfl ?_ ⟨rfl, hW.below⟩
           rfl
       ·intro hc11
        replace hc11 := of_decide_eq_false hc11
        have hdd : ¬ (0 < b.v ∧ b.v < b.x) := by omega
        refine aB ?_
        refine lN ?_
        refine lN ?_
        refine lN ?_
        refine lN ?_
        refine lN ?_
        refine kB ?_
        refine bB ?_
        refine l_end (n_then (c_seq (c_seq (c_reg ?_))))
        refine l_val (r_fieldAddr 8 Tryz.underlying31 rfl tyC3.size rfl rfl rfl) rfl rfl ?_
        refine dC hW 0 tyC3 ?_
        refine l_val (r_mulZ rfl rfl rfl (by omega)) rfl rfl ?_
        refine l_val (r_addZ rfl rfl rfl (by omega)) rfl rfl ?_
        refine aI ?_
        refine l_end (n_then (c_block ?_))
        refine c_loop (fun (y : Nat × Sl × List Blk × Bool) (j : Nat → Value) => [.agg (boC b t).toArray, .slice ra rn rc, .pointer (some ⟨g1, 0, none⟩), j 3, j 4, .bool true, .bool z.2, j 7, j 8, j 9, j 10, .bool y.2.2.2, .bool false, j 13, j 14, j 15, .bool true, .pointer (some ⟨g1, 6, none⟩), .slice t.a t.n t.c, .int .i64 (t.n : Int), .bool false, .bool false, .slice ra rn rc, .int .i64 (rn : Int), .bool false, .bool false, .bool false, .pointer (some ⟨g1, 8, none⟩), .int .i64 b.n, .bool false, .bool false, .bool false, .pointer (some ⟨g1, 8, none⟩), .int .i64 b.n, .bool false, .bool false, .bool false, .pointer (some ⟨g1, 26, none⟩), .int .i64 b.a, .bool false, .bool false, .bool false, .bool true, .bool false, .bool false, j 45, .slice ra rn rc, .int .i64 (rn : Int), j 48, .bool false, j 50, j 51, j 52, j 53, j 54, j 55, j 56, j 57, j 58, j 59, j 60, j 61, j 62, j 63, j 64, j 65, j 66, j 67, j 68, j 69, .pointer (some ⟨g1, 9, none⟩), .int .i64 b.v, .bool false, .bool false, undef, undef, undef, undef, undef, .bool false, .pointer (some ⟨g1, 8, none⟩), .int .i64 b.n, .int .i64 ((2 : Int) * b.n), .int .i64 (2 * b.n + 1), .int .i64 (y.1 : Int), j 85, j 86, j 87, j 88, j 89, j 90, j 91, j 92, j 93, j 94, j 95, j 96, j 97, j 98, j 99, j 100, j 101, j 102, j 103, j 104, j 105, j 106, j 107, j 108, j 109, j 110, j 111]) (fun (y : Nat × Sl × List Blk × Bool) => [⟨g1, (boC (asks (opens b l l.length) 0 y.1 b) y.2.1), 31⟩] ++ y.2.2.1) (fun (y : Nat × Sl × List Blk × Bool) => y.1 ≤ 2 * b.n.toNat + 1 ∧ (∀ (L : List Blk) (W : World), Cl (base w) L W → List.Sublist y.2.2.1 L → RdI W y.2.1 b.l) ∧ y.2.2.2 = quA b (opens b l l.length) y.1 ∧ (y.1 = 0 ∨ askE b l 0 = 0)) (fun (y : Nat × Sl × List Blk × Bool) => (2 * b.n.toNat + 1) - y.1) (0, t, [], false) (by kernel_rfl) (show Cl _ ([_] ++ []) _ from hW) ⟨Nat.zero_le _, fun L W hC _ => hP.1.past hC.below, rfl, .inl rfl⟩ ?_
        intro y j W hx hW
        obtain ⟨hy1, hy2, hy3, hy4⟩ := hx
        refine c_seq (c_reg ?_)
        refine l_val (r_lss rfl rfl rfl rfl) rfl rfl ?_
        refine l_split ?_ ?_
        ·intro hc27
         replace hc27 := of_decide_eq_true hc27
         refine l_end (n_then (c_seq ?_))
         refine c_true rfl ?_
         refine c_skip (n_then (c_seq (c_block (c_seq (c_reg ?_)))))
         refine dA hW 0 tyA31 ?_
         refine aS ?_
         have hsm0 := asks_same (opens b l l.length) 0 b y.1
         refine l_callX hW (g_Ask (asks (opens b l l.length) 0 y.1 b) y.2.1 ra rn rc l 0 (by rw [hsm0.2]; exact hl) hq) en34 ⟨by rw [hsm0.2]; exact hy2 _ _ hW (List.sublist_append_right _ _), hP.2.past hW.below⟩ rfl rfl rfl rfl ?_
         rintro _ B9 W ⟨s9, rfl, n9⟩ hW
         refine l_val (r_move (v := .tuple _) rfl rfl) rfl rfl ?_
         refine l_val (r_extract (v := .agg _) rfl rfl rfl) rfl rfl ?_
         refine l_val (r_extract (v := .bool _) rfl rfl rfl) rfl rfl ?_
         refine l_split ?_ ?_
         ·intro hc28
          refine l_val (r_extract (v := .int _ _) rfl rfl rfl) rfl rfl ?_
          refine l_alloc hW tyZ31 rfl rfl rfl ?_
          intro g7 W hW
          refine sA hW 0 tyA31 ?_
          intro W hW
          refine bB ?_
          refine bI ?_
          refine l_end (n_then (c_seq (c_seq (c_reg ?_))))
          refine aI ?_
          refine l_val (r_neq rfl rfl rfl rfl) rfl rfl ?_
          refine l_split ?_ ?_
          ·intro hc29
           replace hc29 := of_decide_eq_true hc29
           refine l_end (n_then ?_)
           refine c_true rfl ?_
           refine c_seq (c_reg ?_)
           refine aB ?_
           refine bB ?_
           refine l_end (n_then (c_ret (r_then (r_block (r_then (r_then (r_block (r_then ?_))))))))
           refine ret_tmp (v := .bool true) rfl ?_ ⟨rfl, hW.below⟩
           rfl
          ·intro hc29
           replace hc29 := of_decide_eq_false hc29
           have he : askE (asks (opens b l l.length) 0 y.1 b) l 0 = 0 := by omega
           have hsm := asks_same (opens b l l.length) 0 b y.1
           have hop : opens (asks (opens b l l.length) 0 y.1 b) l l.length = (opens b l l.length) := opens_same hsm _
           have hx1 : askX (asks (opens b l l.length) 0 y.1 b) l 0 = asks (opens b l l.length) 0 (y.1 + 1) b := by rw [(askX_yes he).1, hop, asks_succ]
           have hx2 : askP (asks (opens b l l.length) 0 y.1 b) l 0 = plays (asks (opens b l l.length) 0 y.1 b) (opens b l l.length) 0 := by rw [(askX_yes he).2, hop]
           have he0 : askE b l 0 = 0 := hy4.elim (fun h => by rw [h] at he; exact he) id
           refine l_end (n_then ?_)
           refine c_false rfl ?_
           refine c_skip (n_then (c_seq (c_reg ?_)))
           refine aB ?_
           refine l_split ?_ ?_
           ·intro hc30
            refine aB ?_
            refine lN ?_
            refine kB ?_
            refine bB ?_
            refine l_end (n_then (c_reg ?_))
            refine dA hW 0 tyA31 ?_
            refine sA hW 1 tyA31 ?_
            intro W hW
            refine l_end (n_block (n_then (c_reg ?_)))
            refine l_val (r_addN (n := 1) rfl rfl rfl (by omega)) rfl rfl ?_
            refine aI ?_
            refine l_end (n_then ?_)
            rw [hx1] at hW
            exact loop_next (y.1 + 1, s9, B9, true) (by kernel_rfl) (dropQ (show Cl _ (([_, _] ++ y.2.2.1) ++ B9) _ from hW)) ⟨by simp only; omega, fun L W hC hs => by have q := n9.rep.at hC hs; rwa [hx1, (asks_same _ _ _ _).2] at q, by simp only; rw [quA_succ, ← hy3, hc30]; rfl, .inr he0⟩ (by simp only; omega)
           ·intro hc30
            refine aB ?_
            refine l_valG (r_move (v := .bool _) rfl rfl) (by kernel_rfl) rfl ?_
            refine kB ?_
            refine bB ?_
            refine l_end (n_then (c_reg ?_))
            refine dA hW 0 tyA31 ?_
            refine sA hW 1 tyA31 ?_
            intro W hW
            refine l_end (n_block (n_then (c_reg ?_)))
            refine l_val (r_addN (n := 1) rfl rfl rfl (by omega)) rfl rfl ?_
            refine aI ?_
            refine l_end (n_then ?_)
            rw [hx1] at hW
            exact loop_next (y.1 + 1, s9, B9, true) (by kernel_rfl) (dropQ (show Cl _ (([_, _] ++ y.2.2.1) ++ B9) _ from hW)) ⟨by simp only; omega, fun L W hC hs => by have q := n9.rep.at hC hs; rwa [hx1, (asks_same _ _ _ _).2] at q, by simp only; rw [quA_succ, ← hy3, hc30, ← hx2, hc28]; rfl, .inr he0⟩ (by simp only; omega)
         ·intro hc28
          refine l_val (r_extract (v := .int _ _) rfl rfl rfl) rfl rfl ?_
          refine l_alloc hW tyZ31 rfl rfl rfl ?_
          intro g8 W hW
          refine sA hW 0 tyA31 ?_
          intro W hW
          refine bB ?_
          refine bI ?_
          refine l_end (n_then (c_seq (c_seq (c_reg ?_))))
          refine aI ?_
          refine l_val (r_neq rfl rfl rfl rfl) rfl rfl ?_
          refine l_split ?_ ?_
          ·intro hc31
           replace hc31 := of_decide_eq_true hc31
           refine l_end (n_then ?_)
           refine c_true rfl ?_
           refine c_seq (c_reg ?_)
           refine aB ?_
           refine bB ?_
           refine l_end (n_then (c_ret (r_then (r_block (r_then (r_then (r_block (r_then ?_))))))))
           refine ret_tmp (v := .bool true) rfl ?_ ⟨rfl, hW.below⟩
           rfl
          ·intro hc31
           replace hc31 := of_decide_eq_false hc31
           have he : askE (asks (opens b l l.length) 0 y.1 b) l 0 = 0 := by omega
           have hsm := asks_same (opens b l l.length) 0 b y.1
           have hop : opens (asks (opens b l l.length) 0 y.1 b) l l.length = (opens b l l.length) := opens_same hsm _
           have hx1 : askX (asks (opens b l l.length) 0 y.1 b) l 0 = asks (opens b l l.length) 0 (y.1 + 1) b := by rw [(askX_yes he).1, hop, asks_succ]
           have hx2 : askP (asks (opens b l l.length) 0 y.1 b) l 0 = plays (asks (opens b l l.length) 0 y.1 b) (opens b l l.length) 0 := by rw [(askX_yes he).2, hop]
           have he0 : askE b l 0 = 0 := hy4.elim (fun h => by rw [h] at he; exact he) id
           refine l_end (n_then ?_)
           refine c_false rfl ?_
           refine c_skip (n_then (c_seq (c_reg ?_)))
           refine aB ?_
           refine l_split ?_ ?_
           ·intro hc32
            refine aB ?_
            refine lN ?_
            refine kB ?_
            refine bB ?_
            refine l_end (n_then (c_reg ?_))
            refine dA hW 0 tyA31 ?_
            refine sA hW 1 tyA31 ?_
            intro W hW
            refine l_end (n_block (n_then (c_reg ?_)))
            refine l_val (r_addN (n := 1) rfl rfl rfl (by omega)) rfl rfl ?_
            refine aI ?_
            refine l_end (n_then ?_)
            rw [hx1] at hW
            exact loop_next (y.1 + 1, s9, B9, true) (by kernel_rfl) (dropQ (show Cl _ (([_, _] ++ y.2.2.1) ++ B9) _ from hW)) ⟨by simp only; omega, fun L W hC hs => by have q := n9.rep.at hC hs; rwa [hx1, (asks_same _ _ _ _).2] at q, by simp only; rw [quA_succ, ← hy3, hc32]; rfl, .inr he0⟩ (by simp only; omega)
           ·intro hc32
            refine aB ?_
            refine l_valG (r_move (v := .bool _) rfl rfl) (by kernel_rfl) rfl ?_
            refine kB ?_
            refine bB ?_
            refine l_end (n_then (c_reg ?_))
            refine dA hW 0 tyA31 ?_
            refine sA hW 1 tyA31 ?_
            intro W hW
            refine l_end (n_block (n_then (c_reg ?_)))
            refine l_val (r_addN (n := 1) rfl rfl rfl (by omega)) rfl rfl ?_
            refine aI ?_
            refine l_end (n_then ?_)
            rw [hx1] at hW
            exact loop_next (y.1 + 1, s9, B9, false) (by kernel_rfl) (dropQ (show Cl _ (([_, _] ++ y.2.2.1) ++ B9) _ from hW)) ⟨by simp only; omega, fun L W hC hs => by have q := n9.rep.at hC hs; rwa [hx1, (asks_same _ _ _ _).2] at q, by simp only; rw [quA_succ, ← hy3, hc32, ← hx2, hc28]; rfl, .inr he0⟩ (by simp only; omega)
        ·intro hc27
         replace hc27 := of_decide_eq_false hc27
         have he : askE b l 0 = 0 := hy4.resolve_left (by omega)
         obtain ⟨c1, c2, -, -, c5⟩ := askE_ok he
         obtain ⟨hs, hu, hrest⟩ := chkB_ok (show ¬ chkB b ≠ 0 by omega)
         obtain ⟨hll, hsub⟩ := subsE_all.1 c2
         have hqs : y.2.2.2 = (anyB (opens b l l.length) l.length && !decide (0 < b.v ∧ b.v < b.x)) := by
          rw [hy3, show y.1 = 2 * b.n.toNat + 1 by omega]
          have q := quiet_step (opens b l l.length) ⟨n0, n8, by omega, by omega⟩ (N := 2 * b.n.toNat + 1) (by omega)
          rw [opens_len] at q
          exact q
         have hzz : z.2 = anyB (opens b l l.length) l.length := by rw [hz3, knA_open hs hu hsub (Nat.le_refl _)]
         refine l_end (n_then (c_seq ?_))
         refine c_false rfl ?_
         refine c_exit (x_then (x_then ?_))
         refine x_hit ?_
         refine n_then (c_seq (c_reg ?_))
         refine aB ?_
         refine aB ?_
         refine l_valG (r_move (v := .bool _) rfl rfl) (by kernel_rfl) rfl ?_
         refine l_valG (r_move (v := .bool _) rfl rfl) (by kernel_rfl) rfl ?_
         refine l_split ?_ ?_
         ·intro hc33
          have hpl : y.2.2.2 = true := by rw [hqs, ← hzz, hc33, decide_eq_false hdd]; rfl
          refine l_valG (r_move (v := .bool _) rfl rfl) (by kernel_rfl) rfl ?_
          refine l_valG (r_move (v := .bool _) rfl rfl) (by kernel_rfl) rfl ?_
          refine l_valG (r_not rfl rfl) (by kernel_rfl) rfl ?_
          refine l_valG (r_pick (v := .bool _) rfl rfl rfl) (by kernel_rfl) rfl ?_
          refine l_valG (r_eqlBool (c := true) Tryz.underlying4 rfl rfl rfl (by rw [hpl]; rfl)) (by kernel_rfl) rfl ?_
          refine kB ?_
          refine bB ?_
          refine l_end (n_then (c_ret ?_))
          refine ret_tmp (v := .bool true) rfl ?_ ⟨rfl, hW.below⟩
          rfl
         ·intro hc33
          have hpl : y.2.2.2 = false := by rw [hqs, ← hzz, hc33, decide_eq_false hdd]; rfl
          refine l_valG (r_move (v := .bool _) rfl rfl) (by kernel_rfl) rfl ?_
          refine lN ?_
          refine lN ?_
          refine l_valG (r_pick (v := .bool _) rfl rfl rfl) (by kernel_rfl) rfl ?_
          refine l_valG (r_eqlBool (c := true) Tryz.underlying4 rfl rfl rfl (by rw [hpl]; rfl)) (by kernel_rfl) rfl ?_
          refine kB ?_
          refine bB ?_
          refine l_end (n_then (c_ret ?_))
          refine ret_tmp (v := .bool true) rfl ?_ ⟨rfl, hW.below⟩
          rfl

end Go.Proofs.YtoegpalacppllaaGreat

/- For every box of at most 100 receivers with a noise of at most 8, and every list of at most 64 subsets: among twice the noise and one more queries without fakes one is played just if the box knows one of the subsets and is not dead; no conditions. -/
namespace Go.Proofs.YtoegpalacppllaaGreat
open Go.RowKit Go.ChangeShapes Go.WideShapes Pl Tr Hn

theorem traceQuiet_calls (H : Type) (enc : TypeId × Value → H) (W : World) (base : Nat) (args : Array Value) (ds : List (DataW H)) (ps : List MemPlace) (h : Opened enc Tryz.prog W Tryz.f14 base args ds ps) :
    Calls Tryz.prog 14 args W fun e w' => e = .returned (.bool true) ∧ Below W.heap.size W w' := by
  have r0 := h.args (ts := [31, 33]) (by kernel_rfl)
  generalize hl : args.toList = l0 at r0
  obtain ⟨_, l1, rfl, a0, r1⟩ := r0.cons
  obtain ⟨b, b_s, rfl, b_rd⟩ := a0.box tyBo31
  obtain ⟨_, l2, rfl, a1, r2⟩ := r1.cons
  obtain ⟨l_a, l_n, l_c, l, rfl, l_rd⟩ := a1.subsets Tryz.underlying33 tyQ64
  obtain rfl := r2.nil
  rw [arr_of hl]
  exact g_TraceQuiet b b_s l_a l_n l_c l W ⟨b_rd, l_rd⟩
set_option maxRecDepth 100000 in
theorem traceQuiet_closed : joinedFacts Tryz.pinned.checked.prog 14 Tryz.f14 Rows.traceQuietSpec Rows.traceQuietRow = true := by kernel_rfl
set_option maxRecDepth 100000 in
theorem traceQuiet_holds : Rows.TraceQuietSaid :=
  OpenClaim.holds_of_wide 14 Tryz.f14 rfl rfl rfl rfl rfl rfl rfl ⟨rfl, rfl, rfl, rfl, rfl⟩ rfl rfl rfl rfl rfl (by kernel_rfl) Tryz.func14 traceQuiet_closed
    (of_decide_eq_true (by kernel_rfl)) (by unfold Func.isWrapper; first | (rw [if_pos (by decide +kernel)]; kernel_rfl) | (rw [if_neg (by decide +kernel)]; exact ⟨rfl, rfl⟩))
    (fun os started H enc _ => law_lifted (C := Tryz.checked) (s := Rows.traceQuietSpec) (conds := Rows.traceQuietRow.domain) 4 (by kernel_rfl) (by kernel_rfl) Tryz.func14 (by kernel_rfl) (by kernel_rfl) rfl
      (fun H ds hd => match ds, hd with | [_, _], _ => rfl) (by kernel_rfl) Tryz.underlying4 traceQuiet_calls os started H enc
      (ChangeSpec.witness6 (enc := enc) (C := Tryz.checked) false ⟨#[], #[.agg #[.int .u8 0, .int .i64 0, .int .i64 0, .int .u64 0, .int .u64 0, .int .u64 0, .slice none 0 0, .int .u8 0, .int .i64 0, .int .i64 0, .int .u8 0, .int .u8 0, .int .u8 0, .int .u8 0, .int .u8 0, .int .u8 0, .int .u8 0, .int .u8 0, .int .u8 0, .int .u8 0, .int .u8 0, .int .u8 0, .int .u8 0, .int .u8 0, .int .u8 0, .int .u8 0, .int .i64 0, .int .i64 0], .slice none 0 0], []⟩ 8 (by kernel_rfl) (by kernel_rfl) (by kernel_rfl) (by kernel_rfl)))
#print axioms traceQuiet_holds
end Go.Proofs.YtoegpalacppllaaGreat

