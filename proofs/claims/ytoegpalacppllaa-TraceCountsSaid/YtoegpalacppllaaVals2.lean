/- How blocks at work, portions and texts stand in memory; more on calls and slices. No function of the program is in sight here. -/
import Derived.Test.YtoegpalacppllaaMore
import Derived.Test.YtoegpalacppllaaPlain2
namespace Go.Proofs.Ytoegpalacppllaa
open Go.RowKit Pl

section
variable {P : Program} {ops : Array Oper} {Q : Exit → Act → World → Prop} {bs : List Value} {us : List (Nat × Value)} {ds : List Deferred} {w0 : Base} {W : World} {rest : List Oper} {o : Oper} {L Bs : List Blk} {d : Nat} {v : Value} {r : Option (Option Nat)} {m : Nat}

/-- a call of a function value that only reads -/
theorem l_callVR (hW : Cl w0 L W) {f : FuncId} {x : Operand} {xs : Array Operand} {ts : Array TypeId} {args cap : List Value} {Pre : World → Prop} (hgv : GivesR P f (args ++ cap).toArray Pre v) (he : Enters P f) (hp : Pre W) (hg : o.guard = none) (ho : o.op = .call { callee := .value x, args := xs, argTypes := ts }) (hx : ev bs us x = .func (.func f) #[] cap.toArray) (ha : xs.toList.map (ev bs us) = args) (hd : o.dst = some d)
    (h : ∀ W', Cl w0 L W' → LW r m P ops Q rest (fr bs ((d, v) :: us) ds) W') : LW r m P ops Q (o :: rest) (fr bs us ds) W :=
  l_enter hg (run_callV he ho hx ha) hd ((hgv W hp).mono fun _ w ⟨he, hb⟩ => ⟨v, he, h w (hW.past hb)⟩)
/-- a load of a variable of n cells that lay there before the call -/
theorem run_loadFA_at {t : TypeId} {n : Nat} (ht : TyA P t n) {x : Operand} {g : Nat} {cs : List Value} {ty : TypeId} {fz : Nat × Nat} (hh : w0.w.heap[g]? = some (.cells cs.toArray ty fz)) (hn : cs.length = n) (ho : o.op = .load t x) (hx : ev bs us x = .pointer (some ⟨g, 0, none⟩)) (w : World) (hw : Cl w0 L w) :
    (execOp (ev bs us) o).run P w = .ok (.value (.agg cs.toArray)) w := by
  have hlt : g < w0.w.heap.size := (Array.getElem?_eq_some_iff.1 hh).1
  have := run_load_agg ht w ((hw.below.block g hlt).trans hh) (i := 0) (by omega)
  rw [take_all hn] at this
  unfold execOp
  simp only [ho, hx, Instr.loadAt, Instr.sureAddr, Sem.run_bind, Sem.run_pure, Result.andThen_ok, this]
theorem l_loadFA (hW : Cl w0 L W) {t : TypeId} {n : Nat} (ht : TyA P t n) {x : Operand} {g : Nat} {cs : List Value} {ty : TypeId} {fz : Nat × Nat} (hh : w0.w.heap[g]? = some (.cells cs.toArray ty fz)) (hn : cs.length = n) (hg : o.guard = none) (ho : o.op = .load t x) (hx : ev bs us x = .pointer (some ⟨g, 0, none⟩)) (hd : o.dst = some d)
    (h : LW r m P ops Q rest (fr bs ((d, .agg cs.toArray) :: us) ds) W) : LW r m P ops Q (o :: rest) (fr bs us ds) W :=
  l_run hg (run_loadFA_at ht hh hn ho hx W hW) hd h
theorem y_loadFA {S : List Nat} {ks : List Kd} {ms : List Mk} {V : List (List Value)} {R : Act → St → Prop} {T : List Oper → Act → St → Prop} {t : TypeId} {n : Nat} (ht : TyA P t n) {x : Operand} {g : Nat} {cs : List Value} {ty : TypeId} {fz : Nat × Nat} (hh : w0.w.heap[g]? = some (.cells cs.toArray ty fz)) (hn : cs.length = n) (hw : Region.wanted o (yielded ops (fr bs us ds).tmps) = true) (ho : o.op = .load t x) (hx : ev bs us x = .pointer (some ⟨g, 0, none⟩)) (hd : o.dst = some d)
    (h : lx P ops w0 S ms R T ks rest (fr bs ((d, .agg cs.toArray) :: us) ds) (L, V)) : lx P ops w0 S ms R T (.q :: ks) (o :: rest) (fr bs us ds) (L, V) :=
  ⟨_, (L, V), ⟨fun _ _ => yields_run hw fun w hC => by rw [eval_ev]; exact run_loadFA_at ht hh hn ho hx w hC, rfl⟩, by simp only [putK, hd, put_st]; exact h⟩

theorem r_sliceSlMid {t e l g i len c : Nat} {k : IntKind} {x y : Operand} (ht : P.underlying t = some (.slice e)) (hz : ∀ w, (sizeOf e).run P w = .ok 1 w) (ho : o.op = .slice t x (some y) none none)
    (hx : ev bs us x = .slice (some ⟨g, i, none⟩) len c) (hy : ev bs us y = .int k (l : Int)) (hn : l ≤ len) (hc : l < c) : Runs P bs us o (.slice (some ⟨g, i + l, none⟩) (len - l) (c - l)) := by
  have := r_sliceSlFrom ht hz ho hx hy hn
  rwa [if_neg (by omega)] at this
theorem r_sliceSlTo {t e h g i len c : Nat} {k : IntKind} {x y : Operand} (ht : P.underlying t = some (.slice e)) (hz : ∀ w, (sizeOf e).run P w = .ok 1 w) (ho : o.op = .slice t x none (some y) none)
    (hx : ev bs us x = .slice (some ⟨g, i, none⟩) len c) (hy : ev bs us y = .int k (h : Int)) (hn : h ≤ c) : Runs P bs us o (.slice (some ⟨g, i, none⟩) h c) := fun w => by
  unfold execOp
  simp [ho, hx, hy, Instr.sliceAt, Instr.slice, asIntOf, run_underlying ht, hz, Addr.add_lit, Instr.sliceBounds, Instr.sliceBound, hn]
end

theorem r_shr_i64N {t t' : Nat} {p q : Operand} {n s : Nat} {k' : IntKind} {bs : List Value} {us : List (Nat × Value)} {o : Oper} {P : Program} (ho : o.op = .binOp .shr t p q t') (hx : ev bs us p = .int .i64 (n : Int)) (hy : ev bs us q = .int k' (s : Int)) (hs : s < 64) : Runs P bs us o (.int .i64 ((n / 2 ^ s : Nat) : Int)) :=
  run_sh ho hx hy fun w => by
    have h0 : ¬ ((s : Int) < 0) := by omega
    have hm : min (Int.toNat (s : Int)) 64 = s := by simp; omega
    simp only [binOp, Op.shift, h0, if_false, IntKind.bits, hm, Sem.run_pure]
    congr 3
    rw [Int.fdiv_eq_ediv_of_nonneg _ (Int.le_of_lt (Int.pow_pos (by decide)))]
    simp
theorem OwnSl.le {e : TypeId} {sz : Nat} {a : Option Addr} {n c : Nat} {xs : List Value} {Bs : List Blk} (h : OwnSl e sz a n c xs Bs) : n ≤ c := by
  rcases h.2 with ⟨_, h1, h2, _⟩ | ⟨g, cur, _, _, h1, _⟩
  · omega
  · exact h1
/-! ### blocks at work -/
theorem xst_zero (a b : Kw) : kcf (xst a b 0) = kc a := kcf_congr fun i _ => by simp [xst]
theorem xst_all (a b : Kw) : kcf (xst a b 16) = kc (xorK a b) := kcf_congr fun i hi => by rw [byt_xorK]; simp [xst, hi]
theorem xst_set (a b : Kw) (i : Nat) : (kcf (xst a b i)).set i (B8 (byt a i ^^^ byt b i)) = kcf (xst a b (i + 1)) := by
  rw [kcf_set]
  refine kcf_congr fun j _ => ?_
  unfold xst
  by_cases h : j = i
  · subst h; simp
  · by_cases h2 : j < i
    · rw [if_neg h, if_pos h2, if_pos (by omega)]
    · rw [if_neg h, if_neg h2, if_neg (by omega)]
theorem xst_get (a b : Kw) {i : Nat} (h : i < 16) : (kcf (xst a b i))[i]? = some (B8 (byt a i)) := by rw [kcf_get _ i h]; simp [xst]
theorem kc_zero : kc (0#64, 0#64) = List.replicate 16 (.int .u8 0) := by
  rw [← kcf_zero]
  exact kcf_congr fun i _ => by unfold byt; split <;> simp
/-- what a copy of the bytes that are left makes of a block of zeros -/
theorem copy_portion {l : Bs8} {i j : Nat} (h : min (l.length - 16 * i) 16 = j) : (List.replicate 16 (Value.int .u8 0)).take 0 ++ (bl (l.drop (16 * i))).take j ++ (List.replicate 16 (Value.int .u8 0)).drop (0 + j) = kc (portion l i) := by
  apply List.ext_getElem?
  intro q
  rw [List.take_zero, List.nil_append]
  have hlen : ((bl (l.drop (16 * i))).take j).length = j := by rw [List.length_take, bl_len, List.length_drop]; omega
  by_cases hq : q < 16
  · rw [kc_get _ q hq, byt_portion l i q hq]
    by_cases hj : q < j
    · rw [List.getElem?_append_left (by omega), List.getElem?_take, if_pos hj]
      exact bl_get (by rw [List.getElem?_drop]; exact gb_get (by omega))
    · rw [List.getElem?_append_right (by omega), hlen, List.getElem?_drop, gb_out (by omega)]
      rw [List.getElem?_replicate, if_pos (by omega)]
      rfl
  · rw [List.getElem?_eq_none (by rw [List.length_append, hlen, List.length_drop, List.length_replicate]; omega), List.getElem?_eq_none (by rw [kc_len]; omega)]
theorem rd_step {w : World} {g o c : Nat} {l : Bs8} {i j : Nat} (h : Rd w (some ⟨g, o, none⟩) (bl (l.drop (16 * i)))) (hj : min (l.length - 16 * i) 16 = j) (hc : l.length - 16 * i ≤ c) : Rd w (some ⟨g, if c = j then o else o + j, none⟩) (bl (l.drop (16 * (i + 1)))) := fun q u hu => by
  have hlt : q < l.length - 16 * (i + 1) := by
    have := (List.getElem?_eq_some_iff.1 hu).1
    rw [bl_len, List.length_drop] at this
    exact this
  have hj16 : j = 16 := by omega
  subst hj16
  rw [if_neg (by omega)]
  refine ⟨g, _, rfl, ?_⟩
  have hu' : (bl (l.drop (16 * i)))[16 + q]? = some u := by
    rw [← hu]
    simp only [bl, List.getElem?_map, List.getElem?_drop]
    congr 2; omega
  obtain ⟨b, o', ha, hcell⟩ := h _ _ hu'
  simp only [Option.some.injEq, Addr.mk.injEq, and_true] at ha
  obtain ⟨rfl, rfl⟩ := ha
  rw [← hcell]
  congr 2; omega
theorem rd_cell {w : World} {g o : Nat} {l : Bs8} (h : Rd w (some ⟨g, o, none⟩) (bl l)) {j : Nat} (hj : j < l.length) : w.cell? ⟨g, o + j, none⟩ = some (B8 (gb l j)) := by
  obtain ⟨b, o', ha, hc⟩ := h j _ (bl_get (gb_get hj))
  simp only [Option.some.injEq, Addr.mk.injEq, and_true] at ha
  obtain ⟨rfl, rfl⟩ := ha
  exact hc
theorem rd_ptr {w : World} {a : Option Addr} {l : Bs8} (h : Rd w a (bl l)) (hn : 0 < l.length) : ∃ g o, a = some ⟨g, o, none⟩ := by
  obtain ⟨g, o, ha, _⟩ := h.some (by rw [bl_len]; exact hn)
  exact ⟨g, o, ha⟩
theorem bl_drop (l : Bs8) (n : Nat) : bl (l.drop n) = (bl l).drop n := by simp [bl]
theorem bl_take (l : Bs8) (n : Nat) : bl (l.take n) = (bl l).take n := by simp [bl]
theorem upto_portion (l : Bs8) (i : Nat) (h : 16 * i < l.length) : packK (upto (fun j => gb l (16 * i + j)) (l.length - 16 * i)) = portion l i := packK_ext fun j _ => by
  unfold upto
  by_cases hj : j < l.length - 16 * i
  · rw [if_pos hj]
  · rw [if_neg hj, gb_out (by omega)]; rfl
theorem kc_s5a : kcf (upto (fun _ => 0x5a#8) 16) = kc s5a := kcf_congr fun i hi => by
  unfold upto s5a
  rw [if_pos hi, byt_packK _ i hi]
theorem padTo_succ (k : Nat) : padTo k ++ [0#8] = padTo (k + 1) := by
  unfold padTo
  rw [List.cons_append, List.replicate_succ']
theorem padB_succ (k : Nat) : bl (padTo k) ++ [B8 0#8] = bl (padTo (k + 1)) := by rw [← padTo_succ, bl_append]; rfl
def noKey : Value := keyV (0#64, 0#64)
theorem noKey_eq : noKey = .agg (List.replicate 16 (.int .u8 0)).toArray := by rw [noKey, keyV, kc_zero]
def macV (k : Kw) (l : Bs8) : Value := if 16384 < l.length then .tuple #[noKey, .int .i64 4] else .tuple #[keyV (mac k l), .int .i64 0]
def hashV (l : Bs8) : Value := if 16384 < l.length then .tuple #[noKey, .int .i64 4] else .tuple #[keyV (hash l), .int .i64 0]
/-- how the program lays the bytes that are digested -/
theorem hash_cells {l : Bs8} {N : Nat} (hl : l.length ≤ 16384) (hN : N = (l ++ pad l.length).length) :
    (((((List.replicate N (Value.int .u8 0)).take 0 ++ (bl l).take l.length ++ (List.replicate N (Value.int .u8 0)).drop (0 + l.length)).set l.length (B8 128#8)).set (N - 2) (B8 (BitVec.ofNat 8 (l.length / 2 ^ 8)))).set (N - 1) (B8 (BitVec.ofNat 8 l.length))) = bl (l ++ pad l.length) := by
  have hN2 : N = l.length + (zc l.length + 9) := by rw [hN, List.length_append, pad_len]
  have hz : zc l.length ≤ 15 := by unfold zc; omega
  have hb : bl (l ++ pad l.length) = bl l ++ (B8 128#8 :: (List.replicate (zc l.length) (B8 0#8) ++ [B8 0#8, B8 0#8, B8 0#8, B8 0#8, B8 0#8, B8 0#8, B8 (BitVec.ofNat 8 (l.length / 256)), B8 (BitVec.ofNat 8 l.length)])) := by
    rw [bl_append, pad, bl_append, lowB_small _ (by omega)]
    unfold padTo bl
    simp
  rw [hb]
  have hlen := bl_len l
  apply List.ext_getElem?
  intro q
  simp only [List.getElem?_set, List.length_set, List.length_append, List.length_take, List.length_drop, List.length_replicate, hlen, List.take_zero, List.nil_append]
  rw [List.take_of_length_le (by omega : (bl l).length ≤ l.length)]
  by_cases h1 : N - 1 = q
  · rw [if_pos h1, if_pos (by omega), List.getElem?_append_right (by omega), hlen, show q - l.length = (zc l.length + 7) + 1 by omega, List.getElem?_cons_succ, List.getElem?_append_right (by simp), List.length_replicate, show zc l.length + 7 - zc l.length = 7 by omega]
    rfl
  · rw [if_neg h1]
    by_cases h2 : N - 2 = q
    · rw [if_pos h2, if_pos (by omega), List.getElem?_append_right (by omega), hlen, show q - l.length = (zc l.length + 6) + 1 by omega, List.getElem?_cons_succ, List.getElem?_append_right (by simp), List.length_replicate, show zc l.length + 6 - zc l.length = 6 by omega]
      rfl
    · rw [if_neg h2]
      by_cases h3 : l.length = q
      · rw [if_pos h3, if_pos (by omega), List.getElem?_append_right (by omega), hlen, show q - l.length = 0 by omega]
        rfl
      · rw [if_neg h3]
        by_cases h4 : q < l.length
        · rw [List.getElem?_append_left (by omega), List.getElem?_append_left (by omega)]
        · rw [List.getElem?_append_right (by omega), List.getElem?_append_right (by omega), hlen, List.getElem?_drop, List.getElem?_replicate]
          obtain ⟨p, hp⟩ : ∃ p, q - l.length = p + 1 := ⟨q - l.length - 1, by omega⟩
          rw [hp, List.getElem?_cons_succ]
          by_cases h5 : p < zc l.length
          · rw [if_pos (by omega), List.getElem?_append_left (by simp; omega), List.getElem?_replicate, if_pos h5]; rfl
          · rw [List.getElem?_append_right (by simp; omega), List.length_replicate]
            by_cases h6 : p < zc l.length + 6
            · rw [if_pos (by omega)]
              obtain ⟨e, he⟩ : ∃ e, p - zc l.length = e := ⟨_, rfl⟩
              rw [he]
              match e, (show e < 6 by omega) with
              | 0, _ => rfl
              | 1, _ => rfl
              | 2, _ => rfl
              | 3, _ => rfl
              | 4, _ => rfl
              | 5, _ => rfl
            · rw [if_neg (by omega), List.getElem?_eq_none (by simp; omega)]
end Go.Proofs.Ytoegpalacppllaa
