/- For every box of at most 100 receivers, every list of at most 63 subsets, every number of fakes, and every subset that has no member in the coalition, put in at any place, as a fake or not: the box after the query is the same, and it plays just if it did; no conditions. -/
import Derived.Test.YtoegpalacppllaaGreatPkB5
import Derived.ChangeKeysEq
import Derived.Laws.StructEq
import Derived.Test.YtoegpalacppllaaGreatProg
import Derived.ChangeSlices
import Derived.ChangeMaps5
import Derived.Test.YtoegpalacppllaaGreatRows
/- Equality of keys, as the language makes it. -/
namespace Go.Proofs.YtoegpalacppllaaGreat
open Go.RowKit Pl

section
variable {P : Program}
theorem run_eqlK {t e : TypeId} (h : TyK P t e) (a b : Kw) (w : World) : (binOp .eql t (keyV a) (keyV b)).run P w = .ok (.bool (decide (a = b))) w := by
  obtain ⟨i, hi⟩ := h.info
  have h1 := run_eqItems8 h a b 9998 w (List.range 16) (fun i hi => List.mem_range.1 hi)
  have h2 := run_equalIn_array w 9999 (kc a).toArray (kc b).toArray h.u hi
  rw [h.one, h1] at h2
  have h3 : decide (∀ i ∈ List.range 16, byt a i = byt b i) = decide (a = b) := decide_eq_decide.2 ⟨fun h => ext_byt fun i hi => h i (List.mem_range.2 hi), fun h i _ => by rw [h]⟩
  unfold keyV
  rw [run_eql_struct, h2, h3]
  rfl
variable {bs : List Value} {us : List (Nat × Value)} {o : Oper}
theorem r_eqlK {t e t' : Nat} {p q : Operand} (h : TyK P t e) (a b : Kw) {c : Bool} (ho : o.op = .binOp .eql t p q t') (hx : ev bs us p = keyV a) (hy : ev bs us q = keyV b) (hc : decide (a = b) = c) : Runs P bs us o (.bool c) := fun w => by
  subst hc
  unfold execOp
  simp only [ho, hx, hy, keyV, Sem.run_bind, run_eqGuard_agg _ _ _ _ _ _ _ h.plain, Result.andThen_ok]
  have := run_eqlK h a b w
  unfold keyV at this
  simp [this]
end
end Go.Proofs.YtoegpalacppllaaGreat

/- More results, more slices. No function of the program is in sight here. -/
namespace Go.Proofs.YtoegpalacppllaaGreat
open Go.RowKit Pl

section
variable {P : Program} {bs : List Value} {us : List (Nat × Value)} {w0 : Base} {W : World} {L : List Blk} {v : Value} {fn : Func} {R' : Ending → World → Prop}
theorem run_equalBool (d : Nat) {t : TypeId} (ht : P.underlying t = some .bool) (a b : Bool) (w : World) : (Op.equalIn (d + 1) t (.bool a) (.bool b)).run P w = .ok (a == b) w := by
  simp [Op.equalIn, run_underlying ht]
theorem r_eqlBool {o : Oper} {t t' : Nat} {p q : Operand} {a b c : Bool} (ht : P.underlying t = some .bool) (ho : o.op = .binOp .eql t p q t') (hx : ev bs us p = .bool a) (hy : ev bs us q = .bool b) (hc : (a == b) = c) : Runs P bs us o (.bool c) := fun w => by
  subst hc
  have h : (Op.equal t (.bool a) (.bool b)).run P w = .ok (a == b) w := run_equalBool 9999 ht a b w
  unfold execOp
  simp [ho, hx, hy, eqGuard, binOp, h]
section
variable {ops : Array Oper} {Q : Exit → Act → World → Prop} {ds : List Deferred} {rest : List Oper} {o : Oper} {d : Nat} {r : Option (Option Nat)} {m : Nat}
/-! operations under a guard that lets them run -/
end
end
end Go.Proofs.YtoegpalacppllaaGreat

/- Equality of structs; numbers that may be negative. No function of the program is in sight here. -/
namespace Go.Proofs.YtoegpalacppllaaGreat
open Go.RowKit Pl

section
variable {P : Program}
variable {bs : List Value} {us : List (Nat × Value)} {o : Oper}
theorem r_eqlS {t t' : Nat} {p q : Operand} {xs ys : List Value} {e : Prop} [Decidable e] {c : Bool} (hp : P.eqGuardType P.depth t = false) (he : EqV P 10000 t (.agg xs.toArray) (.agg ys.toArray) (decide e)) (ho : o.op = .binOp .eql t p q t') (hx : ev bs us p = .agg xs.toArray) (hy : ev bs us q = .agg ys.toArray) (hc : decide e = c) : Runs P bs us o (.bool c) := fun w => by
  subst hc
  unfold execOp
  simp only [ho, hx, hy, Sem.run_bind, run_eqGuard_agg _ _ _ _ _ _ _ hp, Result.andThen_ok, run_eql_struct, he w, Sem.run_pure]
/-! ### numbers that may be negative -/
end
end Go.Proofs.YtoegpalacppllaaGreat

/- Plain laws of lists and hunts, in the words of loops. No program is in sight here. -/
namespace Go.Proofs.YtoegpalacppllaaGreat.Hn

theorem has_at {l : LI} {i : Nat} {x : Int} (h : i < l.length) (e : at_ l i = x) : l.contains x = true := by
  subst e; simpa using at_mem h
theorem has_no {l : LI} {n : Nat} {x : Int} (hn : n = l.length) (h : ∀ k, k < n → at_ l k ≠ x) : l.contains x = false := by
  subst hn
  rw [← Bool.not_eq_true, List.contains_iff_mem]
  intro hm
  obtain ⟨i, hi, e⟩ := mem_at hm
  exact h i hi e
end Go.Proofs.YtoegpalacppllaaGreat.Hn

/- Closed facts on types and functions of the program, written by a program. -/
namespace Go.Proofs.YtoegpalacppllaaGreat
open Pl
theorem en26 : Enters Tryz.prog 26 := enters_of Tryz.func26 (by kernel_rfl) rfl
theorem en31 : Enters Tryz.prog 31 := enters_of Tryz.func31 (by kernel_rfl) rfl
theorem en40 : Enters Tryz.prog 40 := enters_of Tryz.func40 (by kernel_rfl) rfl
end Go.Proofs.YtoegpalacppllaaGreat

/- What a law's arguments are: opened by their types. -/
namespace Go.Proofs.YtoegpalacppllaaGreat
open Go.RowKit Go.ChangeShapes Go.WideShapes Pl

section
variable {P : Program} {W : World}

theorem arr_of {args : Array Value} {l : List Value} (h : args.toList = l) : args = l.toArray := by subst h; simp

end
end Go.Proofs.YtoegpalacppllaaGreat

/- Twins of boxes. -/
namespace Go.Proofs.YtoegpalacppllaaGreat
open Go.RowKit Pl
open Tr Hn
set_option maxRecDepth 10000 in
/-- headend/headendref08.SameBox -/
theorem g_SameBox (b : Bo) (t u : Sl) (hl : b.l.length ≤ 100) : GivesR Tryz.prog 26 [.agg (boC b t).toArray, .agg (boC b u).toArray].toArray (fun w => RdI w t b.l ∧ RdI w u b.l) (.bool true) := by
 refine givesR_of Tryz.func26 rfl (bs := [.agg (boC b t).toArray, .agg (boC b u).toArray, undef, undef, undef, undef, undef, undef, undef, undef, undef, undef, undef, undef, undef, undef, undef, undef, undef, undef, undef, undef, undef, undef, undef, undef, undef, undef, undef, undef, undef, undef, undef, undef, undef, undef, undef, undef, undef, undef, undef, undef, undef, undef, undef, undef, undef, undef, undef, undef, undef, undef, undef, undef, undef, undef, undef, undef, undef]) rfl ?_
 intro w hP hW
 refine c_seq (c_reg ?_)
 refine xB hW ?_
 intro g1 W hW
 refine xB hW ?_
 intro g2 W hW
 refine bB ?_
 refine l_end (n_then (c_seq (c_reg ?_)))
 refine l_val (r_fieldAddr 0 Tryz.underlying31 rfl tyA26.size rfl rfl rfl) rfl rfl ?_
 refine l_loadP hW 1 tyA26 rfl rfl rfl rfl rfl (by first | rfl | omega | (simp; done) | (simp; omega)) rfl ?_
 refine l_val (r_fieldAddr 0 Tryz.underlying31 rfl tyA26.size rfl rfl rfl) rfl rfl ?_
 refine l_loadP hW 0 tyA26 rfl rfl rfl rfl rfl (by first | rfl | omega | (simp; done) | (simp; omega)) rfl ?_
 refine l_val (r_eqlS gd26 (eqS26 _ _ _ _ _ _ _ _ _ _ _ _) (c := true) rfl rfl rfl (decide_eq_true (by simp))) rfl rfl ?_
 refine aB ?_
 refine l_valG (r_fieldAddr 6 Tryz.underlying31 rfl tyC27.size rfl rfl rfl) (by kernel_rfl) rfl ?_
 refine dG hW 1 tyC27 ?_
 refine l_valG (r_fieldAddr 6 Tryz.underlying31 rfl tyC27.size rfl rfl rfl) (by kernel_rfl) rfl ?_
 refine dG hW 0 tyC27 ?_
 refine l_callRG hW (g_SameInts t.a t.n t.c b.l u.a u.n u.c b.l (by omega)) en78 ⟨hP.1.past hW.below, hP.2.past hW.below⟩ (by kernel_rfl) rfl rfl rfl ?_
 intro W hW
 rw [decide_eq_true rfl]
 refine kB ?_
 refine aB ?_
 refine l_valG (r_fieldAddr 7 Tryz.underlying31 rfl tyC5.size rfl rfl rfl) (by kernel_rfl) rfl ?_
 refine dG hW 1 tyC5 ?_
 refine l_valG (r_fieldAddr 7 Tryz.underlying31 rfl tyC5.size rfl rfl rfl) (by kernel_rfl) rfl ?_
 refine dG hW 0 tyC5 ?_
 refine l_valG (r_eql (b := true) rfl rfl rfl (decide_eq_true rfl)) (by kernel_rfl) rfl ?_
 refine kB ?_
 refine aB ?_
 refine l_valG (r_fieldAddr 8 Tryz.underlying31 rfl tyC3.size rfl rfl rfl) (by kernel_rfl) rfl ?_
 refine dG hW 1 tyC3 ?_
 refine l_valG (r_fieldAddr 8 Tryz.underlying31 rfl tyC3.size rfl rfl rfl) (by kernel_rfl) rfl ?_
 refine dG hW 0 tyC3 ?_
 refine l_valG (r_eql (b := true) rfl rfl rfl (decide_eq_true rfl)) (by kernel_rfl) rfl ?_
 refine kB ?_
 refine aB ?_
 refine l_valG (r_fieldAddr 9 Tryz.underlying31 rfl tyC3.size rfl rfl rfl) (by kernel_rfl) rfl ?_
 refine dG hW 1 tyC3 ?_
 refine l_valG (r_fieldAddr 9 Tryz.underlying31 rfl tyC3.size rfl rfl rfl) (by kernel_rfl) rfl ?_
 refine dG hW 0 tyC3 ?_
 refine l_valG (r_eql (b := true) rfl rfl rfl (decide_eq_true rfl)) (by kernel_rfl) rfl ?_
 refine kB ?_
 refine aB ?_
 refine l_valG (r_fieldAddr 10 Tryz.underlying31 rfl tyA29.size rfl rfl rfl) (by kernel_rfl) rfl ?_
 refine l_loadPG hW 1 tyA29 (by kernel_rfl) rfl rfl rfl rfl (by rw [boC_len]; decide) (boC_key b t) ?_
 refine l_valG (r_fieldAddr 10 Tryz.underlying31 rfl tyA29.size rfl rfl rfl) (by kernel_rfl) rfl ?_
 refine l_loadPG hW 0 tyA29 (by kernel_rfl) rfl rfl rfl rfl (by rw [boC_len]; decide) (boC_key b u) ?_
 refine l_valG (r_eqlK tyK29 _ _ (c := true) rfl rfl rfl (by simp)) (by kernel_rfl) rfl ?_
 refine kB ?_
 refine aB ?_
 refine l_valG (r_fieldAddr 26 Tryz.underlying31 rfl tyC3.size rfl rfl rfl) (by kernel_rfl) rfl ?_
 refine dG hW 1 tyC3 ?_
 refine l_valG (r_fieldAddr 26 Tryz.underlying31 rfl tyC3.size rfl rfl rfl) (by kernel_rfl) rfl ?_
 refine dG hW 0 tyC3 ?_
 refine l_valG (r_eql (b := true) rfl rfl rfl (decide_eq_true rfl)) (by kernel_rfl) rfl ?_
 refine kB ?_
 refine aB ?_
 refine l_valG (r_fieldAddr 27 Tryz.underlying31 rfl tyC3.size rfl rfl rfl) (by kernel_rfl) rfl ?_
 refine dG hW 1 tyC3 ?_
 refine l_valG (r_fieldAddr 27 Tryz.underlying31 rfl tyC3.size rfl rfl rfl) (by kernel_rfl) rfl ?_
 refine dG hW 0 tyC3 ?_
 refine l_valG (r_eql (b := true) rfl rfl rfl (decide_eq_true rfl)) (by kernel_rfl) rfl ?_
 refine kB ?_
 refine bB ?_
 refine l_end (n_then (c_ret ?_))
 refine ret_tmp (v := .bool true) rfl ?_ ⟨rfl, hW.below⟩
 rfl

end Go.Proofs.YtoegpalacppllaaGreat

/- Whether a number is in a list; subsets of a scheme that is not valid. -/
namespace Go.Proofs.YtoegpalacppllaaGreat
open Go.RowKit Pl
open Tr Hn
set_option maxRecDepth 10000 in
/-- headend/headendlaw08.in -/
theorem g_in (aa : Option Addr) (an ac : Nat) (l : List Int) (x : Int) (hl : l.length ≤ 4294967296) : GivesR Tryz.prog 40 [.slice aa an ac, .int .i64 x].toArray (fun w => RdI w ⟨aa, an, ac⟩ l) (.bool (l.contains x)) := by
 refine givesR_of Tryz.func40 rfl (bs := [.slice aa an ac, .int .i64 x, undef, undef, undef, undef, undef, undef, undef, undef, undef, undef, undef, undef, undef, undef, undef, undef]) rfl ?_
 intro w hP hW
 have hn : an = l.length := hP.len
 refine c_seq (c_reg ?_)
 refine bB ?_
 refine l_end (n_then (c_seq (c_seq (c_reg ?_))))
 refine aS ?_
 refine l_val (r_lenSlice Tryz.underlying27 rfl rfl) rfl rfl ?_
 refine aI ?_
 refine l_end (n_then (c_block ?_))
 refine c_loop (fun (i : Nat) (j : Nat → Value) => [.slice aa an ac, .int .i64 x, j 2, j 3, j 4, j 5, .slice aa an ac, .int .i64 (an : Int), .int .i64 (i : Int), j 9, j 10, j 11, j 12, j 13, j 14, j 15, j 16, j 17]) (fun (i : Nat) => []) (fun (i : Nat) => i ≤ an ∧ ∀ k, k < i → at_ l k ≠ x) (fun (i : Nat) => an - i) 0 (by kernel_rfl) hW ⟨by omega, all_zero⟩ ?_
 intro i j W hx hW
 refine c_seq (c_reg ?_)
 refine l_val (r_lssN rfl rfl rfl rfl) rfl rfl ?_
 refine l_split ?_ ?_
 ·intro hc1
  replace hc1 := of_decide_eq_true hc1
  obtain ⟨b0, o0, ha, hc⟩ := hP.ptr (by omega)
  simp only at ha
  subst ha
  refine l_end (n_then (c_seq ?_))
  refine c_true rfl ?_
  refine c_skip (n_then (c_seq (c_block (c_seq (c_reg ?_)))))
  refine aI ?_
  refine bI ?_
  refine l_end (n_then (c_seq (c_reg ?_)))
  refine aS ?_
  refine aI ?_
  refine l_val (r_indexAddrSl2 (n := i) Tryz.underlying27 tyC3.size rfl rfl rfl (by omega)) rfl rfl ?_
  refine l_loadF hW tyC3 (v := .int .i64 (at_ l (i))) (hc (i) (by omega)) rfl rfl rfl rfl ?_
  refine aI ?_
  refine l_val (r_eql rfl rfl rfl rfl) rfl rfl ?_
  refine l_split ?_ ?_
  ·intro hc2
   replace hc2 := of_decide_eq_true hc2
   refine l_end (n_then ?_)
   refine c_true rfl ?_
   refine c_seq (c_reg ?_)
   refine bB ?_
   refine l_end (n_then (c_ret (r_block (r_then (r_then (r_block (r_then ?_)))))))
   refine ret_tmp (v := .bool (l.contains x)) rfl ?_ ⟨rfl, hW.below⟩
   rw [has_at (by omega) hc2]; rfl
  ·intro hc2
   replace hc2 := of_decide_eq_false hc2
   refine l_end (n_then ?_)
   refine c_false rfl ?_
   refine c_skip (n_block (n_then (c_reg ?_)))
   refine l_val (r_addN (n := 1) rfl rfl rfl (by omega)) rfl rfl ?_
   refine aI ?_
   refine l_end (n_then ?_)
   exact loop_next (i + 1) (by kernel_rfl) hW ⟨by omega, all_step hx.2 hc2⟩ (by omega)
 ·intro hc1
  replace hc1 := of_decide_eq_false hc1
  refine l_end (n_then (c_seq ?_))
  refine c_false rfl ?_
  refine c_exit (x_then (x_then ?_))
  refine x_hit ?_
  refine n_then (c_seq (c_reg ?_))
  refine bB ?_
  refine l_end (n_then (c_ret ?_))
  refine ret_tmp (v := .bool (l.contains x)) rfl ?_ ⟨rfl, hW.below⟩
  rw [has_no hn fun k hk => hx.2 k (by omega)]; rfl

set_option maxRecDepth 10000 in
/-- headend/cover.enter -/
theorem g_enterX (s : Sc) (ra : Option Addr) (rn rc : Nat) (l : List (Int × Int)) (hs : schB s = false) : GivesR Tryz.prog 51 [.agg [.int .u8 s.k, .int .i64 s.d, .int .i64 s.g, .int .u64 s.p, .int .u64 s.q, .int .u64 s.r].toArray, .slice ra rn rc].toArray (fun w => RdB w ⟨ra, rn, rc⟩ l) (.tuple #[.agg ([.int .u8 0, .int .i64 0, .int .i64 0]).toArray, .int .i64 30]) := by
 refine givesR_of Tryz.func51 rfl (bs := [.agg [.int .u8 s.k, .int .i64 s.d, .int .i64 s.g, .int .u64 s.p, .int .u64 s.q, .int .u64 s.r].toArray, .slice ra rn rc, undef, undef, undef, undef, undef, undef, undef, undef, undef, undef, undef, undef, undef, undef, undef, undef, undef, undef, undef, undef, undef, undef, undef, undef, undef, undef, undef, undef, undef]) rfl ?_
 intro w hP hW
 refine c_seq (c_reg ?_)
 refine xB hW ?_
 intro g1 W hW
 refine l_alloc hW tyZ106 rfl rfl rfl ?_
 intro g2 W hW
 refine bI ?_
 refine l_end (n_then (c_seq (c_reg ?_)))
 refine dA hW 1 tyA26 ?_
 refine l_call hW (g_treeOf s) en98 rfl rfl rfl rfl ?_
 intro W hW
 rw [treeC_no hs, hs]
 refine l_val (r_move (v := .tuple _) rfl rfl) rfl rfl ?_
 refine l_val (r_extract (v := .agg _) rfl rfl rfl) rfl rfl ?_
 refine l_val (r_extract (v := .bool _) rfl rfl rfl) rfl rfl ?_
 refine l_alloc hW tyZ106 rfl rfl rfl ?_
 intro g3 W hW
 refine sA hW 0 tyA106 ?_
 intro W hW
 refine bB ?_
 refine l_end (n_then (c_seq (c_seq (c_reg ?_))))
 refine aB ?_
 refine l_val (r_not rfl rfl) rfl rfl ?_
 refine l_end (n_then ?_)
 refine c_true rfl ?_
 refine c_seq (c_reg ?_)
 refine l_val (r_build (ps := []) (bld106_) rfl rfl) rfl rfl ?_
 refine sA hW 1 tyA106 ?_
 intro W hW
 refine bI ?_
 refine l_end (n_then (c_ret (r_then ?_)))
 refine rT hW 1 tyA106 ?_
 exact ⟨rfl, hW.below⟩

set_option maxRecDepth 10000 in
/-- headend/cover.Members -/
theorem g_MembersX (s : Sc) (v x : Int) (hs : schB s = false) : GivesX Tryz.prog 43 [.agg [.int .u8 s.k, .int .i64 s.d, .int .i64 s.g, .int .u64 s.p, .int .u64 s.q, .int .u64 s.r].toArray, .agg [.int .i64 v, .int .i64 x].toArray].toArray (fun _ => True) (fun u Bs => u = .tuple #[.slice none 0 0, .int .i64 30] ∧ Bs = []) := by
 refine givesX_of Tryz.func43 rfl (bs := [.agg [.int .u8 s.k, .int .i64 s.d, .int .i64 s.g, .int .u64 s.p, .int .u64 s.q, .int .u64 s.r].toArray, .agg [.int .i64 v, .int .i64 x].toArray, undef, undef, undef, undef, undef, undef, undef, undef, undef, undef, undef, undef, undef, undef, undef, undef, undef, undef, undef]) rfl ?_
 intro w hP hW
 refine c_seq (c_reg ?_)
 refine xB hW ?_
 intro g1 W hW
 refine xB hW ?_
 intro g2 W hW
 refine bS ?_
 refine bI ?_
 refine l_end (n_then (c_seq (c_reg ?_)))
 refine dA hW 1 tyA26 ?_
 refine dA hW 0 tyA64 ?_
 refine l_buildSliceF hW (bsl33_1_0 _ _) rfl rfl rfl rfl ?_
 intro gb W hW
 refine l_callR hW (g_enterX s (some ⟨gb, 0, none⟩) 1 1 [(v, x)] hs) en51 (RdB.one hW 0 rfl) rfl rfl rfl rfl ?_
 intro W hW
 refine l_val (r_move (v := .tuple _) rfl rfl) rfl rfl ?_
 refine l_val (r_extract (v := .agg _) rfl rfl rfl) rfl rfl ?_
 refine l_val (r_extract (v := .int _ _) rfl rfl rfl) rfl rfl ?_
 refine l_alloc hW tyZ106 rfl rfl rfl ?_
 intro g3 W hW
 refine sA hW 0 tyA106 ?_
 intro W hW
 refine bI ?_
 refine l_end (n_then (c_seq (c_seq (c_reg ?_))))
 refine aI ?_
 refine l_val (r_neq (b := true) rfl rfl rfl (by decide)) rfl rfl ?_
 refine l_end (n_then ?_)
 refine c_true rfl ?_
 refine c_seq (c_reg ?_)
 refine aI ?_
 refine bS ?_
 refine bI ?_
 refine l_end (n_then (c_ret (r_then ?_)))
 refine ret_tmp2 rfl rfl rfl ?_
 exact ⟨_, [], rfl, ⟨rfl, rfl⟩, hW.sub (List.nil_sublist _)⟩

end Go.Proofs.YtoegpalacppllaaGreat

/- What a trace proves: noise, deadness, who is named. No program is in sight here. -/
namespace Go.Proofs.YtoegpalacppllaaGreat.Tr
open Hn

/-- a box after so many queries of the same kind -/
def asks (o : List Bool) (f : Int) : Nat → Bo → Bo
  | 0, b => b
  | j + 1, b => asks o f j (askd b o f)
theorem asks_run {b0 : Bo} (o : List Bool) (f : Int) : ∀ (j : Nat) {b : Bo} {c : Nat}, Askd b0 b c → Askd b0 (asks o f j b) (c + j)
  | 0, b, c, h => h
  | j + 1, b, c, h => by
    rw [show c + (j + 1) = c + 1 + j by omega]
    exact asks_run o f j (h.ask o f)
/-- whether a box would play, but for noise and death -/
def wishB (b : Bo) (o : List Bool) (f : Int) : Bool := !decide ((stp o f o.length).1 = 0) && (decide ((stp o f o.length).2.1 = 0) || playB b (stp o f o.length).1 (stp o f o.length).2.1 (stp o f o.length).2.2)
def deadB (b : Bo) : Bool := decide (0 < b.v ∧ b.v < b.x)
theorem plays_iff {b : Bo} {o : List Bool} {f : Int} : plays b o f = true ↔ wishB b o f = true ∧ ¬ (0 < b.v ∧ b.v < (askd b o f).x) ∧ noiseB b = false := by
  unfold plays askW wishB
  rw [show (after b (stp o f o.length).1 (stp o f o.length).2.1) = askd b o f from rfl]
  generalize stp o f o.length = s
  constructor
  · intro h
    split at h
    · cases h
    · next hn =>
      have h1 : ¬ s.1 = 0 := fun e => hn (.inl e)
      have h2 : ¬ (0 < b.v ∧ b.v < (askd b o f).x) := fun e => hn (.inr (.inl e))
      have h3 : noiseB b = false := by rw [← Bool.not_eq_true]; exact fun e => hn (.inr (.inr e))
      refine ⟨?_, h2, h3⟩
      split at h
      · next hw => simp [h1, hw]
      · simp [h1, h]
  · rintro ⟨h1, h2, h3⟩
    simp only [Bool.and_eq_true, Bool.not_eq_true', decide_eq_false_iff_not, Bool.or_eq_true, decide_eq_true_eq] at h1
    rw [if_neg (by rintro (h | h | h); exact h1.1 h; exact h2 h; rw [h3] at h; cases h)]
    split
    · rfl
    · next hw => exact h1.2.resolve_left hw
theorem wish_same {b0 b : Bo} {c : Nat} (h : Askd b0 b c) (o : List Bool) (f : Int) : wishB b o f = wishB b0 o f := by
  unfold wishB playB oddB; rw [h.m, h.k]
theorem dead_mono {b0 b : Bo} {c : Nat} (h : Askd b0 b c) (hd : deadB b0 = true) : deadB b = true := by
  unfold deadB at *
  have h1 := of_decide_eq_true hd
  have := h.v
  have := h.x2
  exact decide_eq_true (by omega)
/-- what holds of a box whenever it is asked -/
structure Okb (b : Bo) : Prop where
  n0 : 0 ≤ b.n
  n8 : b.n ≤ 8
  x0 : 0 ≤ b.x
  x1 : b.x ≤ b.a
theorem Okb.run {b0 b : Bo} {c : Nat} (k : Okb b0) (h : Askd b0 b c) : Okb b := ⟨by rw [h.n]; exact k.n0, by rw [h.n]; exact k.n8, h.x0, h.x1⟩
theorem Okb.refl {b : Bo} (k : Okb b) : Askd b b 0 := Askd.refl k.x0 k.x1
theorem opens_get {b : Bo} {l : List (Int × Int)} {i n : Nat} (hi : i < n) : (opens b l n).getD i false = opnB b.s b.l (qn l i) (qm l i) := by
  unfold opens; simp [List.getD_eq_getElem?_getD, hi]
theorem mem_opn {s : Sc} {c : List Int} {v w : Int} {u : Int} (hu : u ∈ c) (h : memB s v w u.toNat = true) : opnB s c v w = true := by
  obtain ⟨i, hi, rfl⟩ := mem_at.1 hu
  exact List.any_eq_true.2 ⟨i, List.mem_range.2 hi, h⟩
/-- the end of a trace -/
structure Fin (N : Nat) (b0 : Bo) (tot : List Int) (r : Ts × Nat) : Prop where
  e : r.2 = 1 ∨ r.2 = 2
  ask : Askd b0 r.1.b r.1.a
  part : Part b0.s tot r.1.l r.1.nm
  col : ∀ u ∈ r.1.nm, u ∈ b0.l
  shut : wishB r.1.b r.1.o 0 = false ∨ deadB r.1.b = true
  fit : r.1.a + N ≤ (2 * p2 b0.s.d.toNat + 1) * ((b0.s.d.toNat + 2) * N)
  all : b0.v = 0 → r.2 = 1 ∧ wishB r.1.b r.1.o 0 = false
end Go.Proofs.YtoegpalacppllaaGreat.Tr

/- What a box plays: as its coalition knows; what is not open does not count; noise. No program is in sight here. -/
namespace Go.Proofs.YtoegpalacppllaaGreat.Tr
open Hn

theorem askE_ok {b : Bo} {l : List (Int × Int)} {f : Int} (h : askE b l f = 0) : chkB b = 0 ∧ subsE b.s l = 0 ∧ 0 ≤ f ∧ f ≤ l.length ∧ b.a ≠ 100000 := by
  by_cases h1 : chkB b ≠ 0
  · rw [askE_b h1] at h; exact absurd h h1
  · by_cases h2 : subsE b.s l ≠ 0
    · rw [askE_s h1 h2] at h; exact absurd h h2
    · by_cases h3 : f < 0 ∨ (l.length : Int) < f
      · rw [askE_f h1 h2 h3] at h; exact absurd h (by decide)
      · by_cases h4 : b.a = 100000
        · rw [askE_a h1 h2 h3 h4] at h; exact absurd h (by decide)
        · exact ⟨Classical.not_not.1 h1, Classical.not_not.1 h2, by omega, by omega, h4⟩
/-- with no fakes each open item is right -/
theorem stp_zero (o : List Bool) : ∀ n, (stp o 0 n).2.1 = 0 ∧ ((stp o 0 n).1 = 0 ↔ ∀ i, i < n → o.getD i false = false)
  | 0 => ⟨rfl, ⟨fun _ i hi => by omega, fun _ => rfl⟩⟩
  | n + 1 => by
    obtain ⟨h1, h2⟩ := stp_zero o n
    cases h : o.getD n false with
    | false =>
      rw [stp_no h]
      refine ⟨h1, h2.trans ⟨fun k i hi => ?_, fun k i hi => k i (by omega)⟩⟩
      by_cases e : i = n
      · rw [e]; exact h
      · exact k i (by omega)
    | true =>
      rw [stp_right h (by omega)]
      refine ⟨h1, ⟨fun k => absurd k (by simp), fun k => ?_⟩⟩
      have := k n (by omega)
      rw [h] at this; cases this
def anyB (o : List Bool) (n : Nat) : Bool := (List.range n).any fun i => o.getD i false
theorem anyB_iff {o : List Bool} {n : Nat} : anyB o n = false ↔ ∀ i, i < n → o.getD i false = false := by
  unfold anyB
  rw [List.any_eq_false]
  exact ⟨fun h i hi => by simpa using h i (List.mem_range.2 hi), fun h i hi => by rw [h i (List.mem_range.1 hi)]; decide⟩
theorem wish_zero (b : Bo) (o : List Bool) : wishB b o 0 = anyB o o.length := by
  obtain ⟨h1, h2⟩ := stp_zero o o.length
  unfold wishB
  rw [decide_eq_true h1, Bool.true_or, Bool.and_true]
  cases h : anyB o o.length with
  | false => rw [decide_eq_true (h2.2 (anyB_iff.1 h))]; rfl
  | true =>
    rw [decide_eq_false fun e => by rw [anyB_iff.2 (h2.1 e)] at h; cases h]; rfl
theorem opens_getD {b : Bo} {l : List (Int × Int)} {i : Nat} (hi : i < l.length) : (opens b l l.length).getD i false = opnB b.s b.l (qn l i) (qm l i) := opens_get hi
/-- an item that is not open, put in at a place -/
theorem stp_put {o o' : List Bool} {p : Nat} {f f' : Int} (h1 : ∀ i, i < p → o'.getD i false = o.getD i false) (h2 : o'.getD p false = false) (h3 : ∀ i, p ≤ i → o'.getD (i + 1) false = o.getD i false) (hf : f' = if (p : Int) < f then f + 1 else f) :
    (∀ n, n ≤ p → stp o' f' n = stp o f n) ∧ ∀ n, p ≤ n → stp o' f' (n + 1) = stp o f n := by
  have ha : ∀ n, n ≤ p → stp o' f' n = stp o f n := fun n => by
    induction n with
    | zero => exact fun _ => rfl
    | succ n ih =>
      intro hn
      have e : ((n : Int) < f') = ((n : Int) < f) := by
        rw [hf]; split <;> apply propext <;> omega
      rw [stp, stp, ih (by omega), h1 n (by omega)]
      simp only [e]
  refine ⟨ha, fun n hn => ?_⟩
  induction n with
  | zero =>
    obtain rfl : p = 0 := by omega
    rw [stp_no h2]; rfl
  | succ n ih =>
    by_cases e : p = n + 1
    · subst e
      rw [stp_no h2]; exact ha _ (Nat.le_refl _)
    · have e2 : (((n + 1 : Nat) : Int) < f') = ((n : Int) < f) := by
        rw [hf]; split <;> apply propext <;> omega
      have ih := ih (by omega)
      cases h : o.getD n false with
      | false => rw [stp_no ((h3 n (by omega)).trans h), stp_no h, ih]
      | true =>
        by_cases hn2 : (n : Int) < f
        · rw [stp_wrong ((h3 n (by omega)).trans h) (e2 ▸ hn2), stp_wrong h hn2, ih]
        · rw [stp_right ((h3 n (by omega)).trans h) (e2 ▸ hn2), stp_right h hn2, ih]
theorem q_appL {l m : List (Int × Int)} {i : Nat} (h : i < l.length) : qn (l ++ m) i = qn l i ∧ qm (l ++ m) i = qm l i := by
  unfold qn qm
  rw [List.getD_eq_getElem?_getD, List.getD_eq_getElem?_getD, List.getElem?_append_left h]; exact ⟨rfl, rfl⟩
theorem q_appR {l m : List (Int × Int)} {i : Nat} (h : l.length ≤ i) : qn (l ++ m) i = qn m (i - l.length) ∧ qm (l ++ m) i = qm m (i - l.length) := by
  unfold qn qm
  rw [List.getD_eq_getElem?_getD, List.getD_eq_getElem?_getD, List.getElem?_append_right h]; exact ⟨rfl, rfl⟩
theorem q_takeK {l : List (Int × Int)} {i n : Nat} (h : i < n) : qn (l.take n) i = qn l i ∧ qm (l.take n) i = qm l i := by
  unfold qn qm
  rw [List.getD_eq_getElem?_getD, List.getD_eq_getElem?_getD, List.getElem?_take_of_lt h]; exact ⟨rfl, rfl⟩
theorem q_dropK {l : List (Int × Int)} {i n : Nat} : qn (l.drop n) i = qn l (n + i) ∧ qm (l.drop n) i = qm l (n + i) := by
  unfold qn qm
  rw [List.getD_eq_getElem?_getD, List.getD_eq_getElem?_getD, List.getElem?_drop]; exact ⟨rfl, rfl⟩
/-- a list with a subset more -/
def putL (l : List (Int × Int)) (p : Nat) (x : Int × Int) : List (Int × Int) := l.take p ++ (x :: l.drop p)
theorem putL_len {l : List (Int × Int)} {p : Nat} {x : Int × Int} (hp : p ≤ l.length) : (putL l p x).length = l.length + 1 := by
  unfold putL
  rw [List.length_append, List.length_cons, List.length_take, List.length_drop]; omega
theorem putL_a {l : List (Int × Int)} {p i : Nat} {x : Int × Int} (hp : p ≤ l.length) (hi : i < p) : qn (putL l p x) i = qn l i ∧ qm (putL l p x) i = qm l i := by
  have h1 := q_appL (l := l.take p) (m := x :: l.drop p) (i := i) (by rw [List.length_take]; omega)
  have h2 := q_takeK (l := l) hi
  exact ⟨h1.1.trans h2.1, h1.2.trans h2.2⟩
theorem putL_b {l : List (Int × Int)} {p : Nat} {x : Int × Int} (hp : p ≤ l.length) : qn (putL l p x) p = x.1 ∧ qm (putL l p x) p = x.2 := by
  have hl : (l.take p).length = p := by rw [List.length_take]; omega
  have h1 := q_appR (l := l.take p) (m := x :: l.drop p) (i := p) (by omega)
  rw [hl, Nat.sub_self] at h1
  exact h1
theorem putL_c {l : List (Int × Int)} {p i : Nat} {x : Int × Int} (hp : p ≤ l.length) (hi : p ≤ i) : qn (putL l p x) (i + 1) = qn l i ∧ qm (putL l p x) (i + 1) = qm l i := by
  have hl : (l.take p).length = p := by rw [List.length_take]; omega
  have h1 := q_appR (l := l.take p) (m := x :: l.drop p) (i := i + 1) (by omega)
  rw [hl, show i + 1 - p = (i - p) + 1 by omega] at h1
  have h2 := q_dropK (l := l) (i := i - p) (n := p)
  rw [show p + (i - p) = i by omega] at h2
  exact ⟨h1.1.trans h2.1, h1.2.trans h2.2⟩
theorem opens_out {b : Bo} {l : List (Int × Int)} {i n : Nat} (h : n ≤ i) : (opens b l n).getD i false = false := by
  rw [List.getD_eq_getElem?_getD, List.getElem?_eq_none (by rw [opens_len]; exact h)]; rfl
theorem opens_putL {b : Bo} {l : List (Int × Int)} {p : Nat} {x : Int × Int} (hp : p ≤ l.length) (hx : opnB b.s b.l x.1 x.2 = false) :
    (∀ i, i < p → (opens b (putL l p x) (putL l p x).length).getD i false = (opens b l l.length).getD i false) ∧ (opens b (putL l p x) (putL l p x).length).getD p false = false ∧ ∀ i, p ≤ i → (opens b (putL l p x) (putL l p x).length).getD (i + 1) false = (opens b l l.length).getD i false := by
  have hl := putL_len (x := x) hp
  refine ⟨fun i hi => ?_, ?_, fun i hi => ?_⟩
  · obtain ⟨h1, h2⟩ := putL_a (x := x) hp hi
    rw [opens_getD (by omega), opens_getD (by omega), h1, h2]
  · obtain ⟨h1, h2⟩ := putL_b (x := x) hp
    rw [opens_getD (by omega), h1, h2]; exact hx
  · by_cases h : i < l.length
    · obtain ⟨h1, h2⟩ := putL_c (x := x) hp hi
      rw [opens_getD (by omega), opens_getD h, h1, h2]
    · rw [opens_out (by omega), opens_out (by omega)]
/-- what is not open does not count -/
theorem blind {b : Bo} {l : List (Int × Int)} {f : Int} {p : Nat} {x : Int × Int} (hp : p ≤ l.length) (hx : opnB b.s b.l x.1 x.2 = false) :
    askd b (opens b (putL l p x) (putL l p x).length) (if (p : Int) < f then f + 1 else f) = askd b (opens b l l.length) f ∧ plays b (opens b (putL l p x) (putL l p x).length) (if (p : Int) < f then f + 1 else f) = plays b (opens b l l.length) f := by
  obtain ⟨h1, h2, h3⟩ := opens_putL hp hx
  have h := (stp_put h1 h2 h3 rfl (f := f)).2 l.length hp
  have hl : (opens b (putL l p x) (putL l p x).length).length = l.length + 1 := by rw [opens_len, putL_len hp]
  have hl2 : (opens b l l.length).length = l.length := opens_len _ _ _
  unfold askd plays
  rw [hl, hl2, h]
  exact ⟨rfl, rfl⟩
theorem subsE_all {s : Sc} {l : List (Int × Int)} : subsE s l = 0 ↔ l.length ≤ 64 ∧ ∀ i, i < l.length → subB s (qn l i) (qm l i) = true :=
  ⟨fun h => subsE_ok (by omega), fun h => subsE_yes (by omega) h.2⟩
theorem askE_put {b : Bo} {l : List (Int × Int)} {f : Int} {p : Nat} {x : Int × Int} (hl : l.length ≤ 63) (hp : p ≤ l.length) (hx : subB b.s x.1 x.2 = true) (h : askE b l f = 0) : askE b (putL l p x) (if (p : Int) < f then f + 1 else f) = 0 := by
  obtain ⟨h1, h2, h3, h4, h5⟩ := askE_ok h
  obtain ⟨-, h6⟩ := subsE_all.1 h2
  have hlen := putL_len (x := x) hp
  have h7 : subsE b.s (putL l p x) = 0 := subsE_all.2 ⟨by omega, fun i hi => by
    rcases Nat.lt_trichotomy i p with hc | rfl | hc
    · obtain ⟨e1, e2⟩ := putL_a (x := x) hp hc
      rw [e1, e2]; exact h6 i (by omega)
    · obtain ⟨e1, e2⟩ := putL_b (x := x) hp
      rw [e1, e2]; exact hx
    · obtain ⟨j, rfl⟩ : ∃ j, i = j + 1 := ⟨i - 1, by omega⟩
      obtain ⟨e1, e2⟩ := putL_c (x := x) (i := j) hp (by omega)
      rw [e1, e2]; exact h6 j (by omega)⟩
  refine askE_0 (by omega) (by omega) ?_ h5
  split <;> omega
end Go.Proofs.YtoegpalacppllaaGreat.Tr

/- What the end of a trace tells, as the outright statements ask. No program is in sight here. -/
namespace Go.Proofs.YtoegpalacppllaaGreat.Tr
open Hn

/-- the receivers of a list, in order -/
def restL (t : List Int) (n : Nat) : List Int := (rangeI n).filter fun u => t.contains u
theorem mem_restL {t : List Int} {n : Nat} {x : Int} : x ∈ restL t n ↔ (0 ≤ x ∧ x < n) ∧ x ∈ t := by
  rw [restL, List.mem_filter, mem_rangeI, List.contains_iff_mem]
theorem restL_nodup (t : List Int) (n : Nat) : (restL t n).Nodup := List.Pairwise.filter _ (nodup_rangeI n)
theorem len_eq_of {a b : List Int} (ha : a.Nodup) (hb : b.Nodup) (h : ∀ x, x ∈ a ↔ x ∈ b) : a.length = b.length :=
  Nat.le_antisymm (List.Nodup.length_le_of_subset ha fun x hx => (h x).1 hx) (List.Nodup.length_le_of_subset hb fun x hx => (h x).2 hx)
theorem restL_len {t : List Int} {n : Nat} (hn : t.Nodup) (hr : ∀ x ∈ t, 0 ≤ x ∧ x < n) : (restL t n).length = t.length :=
  len_eq_of (restL_nodup t n) hn fun x => ⟨fun h => (mem_restL.1 h).2, fun h => mem_restL.2 ⟨hr x h, h⟩⟩
/-- whether subsets are valid, and no receiver is a member of two -/
def memsB (s : Sc) (l : List (Int × Int)) : Bool := (List.range l.length).all (fun i => schB s && subB s (qn l i) (qm l i)) && decide (allm s l).Nodup
/-- the receivers of some subsets -/
def memsL (s : Sc) (l : List (Int × Int)) : List Int := if memsB s l then restL (allm s l) 64 else []
/-- a trace without an error -/
structure TrOk (b : Bo) (l : List (Int × Int)) (noise : Int) (r : Ts × Nat) : Prop where
  s : schB b.s = true
  box : chkB b = 0
  n0 : 0 ≤ noise
  n8 : noise ≤ 8
  lim : b.a + lim b.s.d noise ≤ 100000
  sub : ∀ i, i < l.length → subB b.s (qn l i) (qm l i) = true
  nd : (allm b.s l).Nodup
  fin : Fin (2 * noise.toNat + 1) b (allm b.s l) r
theorem all_64 {s : Sc} {l : List (Int × Int)} (hs : schB s = true) : ∀ x ∈ allm s l, 0 ≤ x ∧ x < 64 := fun x hx => by
  have h1 := all_lt hx
  have h2 := p2_le (n := s.d.toNat) (by have := schB_iff.1 hs; omega)
  omega
section
variable {b : Bo} {l : List (Int × Int)} {noise : Int} {r : Ts × Nat} (k : TrOk b l noise r)
include k
theorem TrOk.asked : (r.1.a : Int) ≤ boundV b.s noise ∧ boundE b.s noise = 0 := by
  obtain ⟨h1, h2⟩ := bound_ok k.s ⟨k.n0, k.n8⟩
  have hd := schB_iff.1 k.s
  rw [h1, h2, lim_nat (by omega) k.n0]
  have := k.fin.fit
  exact ⟨by omega, rfl⟩
theorem TrOk.nd2 : (allm b.s r.1.l ++ r.1.nm).Nodup := (k.fin.part.perm.nodup_iff).2 k.nd
theorem TrOk.okb : Okb b := by
  obtain ⟨hs, hu, h1, h2, h3, h4, h5, h6, h7, h8, h9, h10⟩ := chkB_ok (show ¬ chkB b ≠ 0 by have := k.box; omega)
  exact ⟨h3, h4, h9, h10⟩
theorem TrOk.s' : r.1.b.s = b.s := k.fin.ask.s
theorem TrOk.subs' : r.1.l.length ≤ 64 ∧ ∀ i, i < r.1.l.length → subB b.s (qn r.1.l i) (qm r.1.l i) = true := by
  have hd := schB_iff.1 k.s
  have h1 := (len_le k.s k.nd k.fin.part).2
  have h2 := p2_le (n := b.s.d.toNat) (by omega)
  exact ⟨by omega, fun i hi => k.fin.part.sub _ (q_mem.2 ⟨i, hi, rfl⟩)⟩
theorem TrOk.before : memsB b.s l = true ∧ memsL b.s l = restL (allm b.s l) 64 := by
  have h : memsB b.s l = true := by
    rw [memsB, Bool.and_eq_true, List.all_eq_true]
    exact ⟨fun i hi => by rw [k.s, k.sub i (List.mem_range.1 hi)]; rfl, decide_eq_true k.nd⟩
  exact ⟨h, if_pos h⟩
theorem TrOk.after : memsB b.s r.1.l = true ∧ memsL b.s r.1.l = restL (allm b.s r.1.l) 64 := by
  have h : memsB b.s r.1.l = true := by
    rw [memsB, Bool.and_eq_true, List.all_eq_true]
    exact ⟨fun i hi => by rw [k.s, k.subs'.2 i (List.mem_range.1 hi)]; rfl, decide_eq_true (List.nodup_append.1 k.nd2).1⟩
  exact ⟨h, if_pos h⟩
theorem TrOk.sum : (restL (allm b.s r.1.l) 64).length + r.1.nm.length = (restL (allm b.s l) 64).length := by
  rw [restL_len (List.nodup_append.1 k.nd2).1 (all_64 k.s), restL_len k.nd (all_64 k.s), ← k.fin.part.perm.length_eq, List.length_append]
theorem TrOk.named {u : Int} (hu : u ∈ r.1.nm) : u ∈ b.l ∧ u ∈ restL (allm b.s l) 64 ∧ u ∉ restL (allm b.s r.1.l) 64 := by
  have h1 := k.fin.part.perm.subset (List.mem_append_right _ hu)
  exact ⟨k.fin.col u hu, mem_restL.2 ⟨all_64 k.s u h1, h1⟩, fun h => (List.nodup_append.1 k.nd2).2.2 u (mem_restL.1 h).2 u hu rfl⟩
/-- the queries behind a trace -/
theorem TrOk.run (j : Nat) : Askd r.1.b (asks r.1.o 0 j r.1.b) j := by
  have := asks_run r.1.o 0 j (k.okb.run k.fin.ask).refl
  rwa [Nat.zero_add] at this
theorem TrOk.quiet (j : Nat) : plays (asks r.1.o 0 j r.1.b) r.1.o 0 = false := by
  cases h : plays (asks r.1.o 0 j r.1.b) r.1.o 0 with
  | false => rfl
  | true =>
    obtain ⟨h1, h2, -⟩ := plays_iff.1 h
    have hr := k.run j
    rw [wish_same hr] at h1
    rcases k.fin.shut with hs | hs
    · rw [h1] at hs; cases hs
    · have hd := dead_mono (hr.ask r.1.o 0) hs
      have := of_decide_eq_true hd
      rw [(hr.ask r.1.o 0).v, ← hr.v] at this
      exact absurd this h2
/-- of an immortal box all are named -/
theorem TrOk.all (hv : b.v = 0) {u : Int} (hu : u ∈ b.l) (hb : u ∈ restL (allm b.s l) 64) : u ∈ r.1.nm := by
  have h1 := (k.fin.all hv).2
  have h2 := (k.fin.part.perm.symm.subset (mem_restL.1 hb).2)
  rcases List.mem_append.1 h2 with h | h
  · exfalso
    obtain ⟨m, hm, hx⟩ := List.mem_flatten.1 h
    obtain ⟨y, hy, rfl⟩ := List.mem_map.1 hm
    obtain ⟨i, hi, e⟩ := q_mem.1 hy
    have hmem := (members_lt hx).2.2
    have ho := mem_opn (s := b.s) hu hmem
    rw [wish_zero, show r.1.o.length = r.1.l.length from opens_len _ _ _] at h1
    have := anyB_iff.1 h1 i hi
    rw [Ts.o, opens_getD hi, k.s', k.fin.ask.l] at this
    rw [e] at ho
    rw [ho] at this; cases this
  · exact h
end
end Go.Proofs.YtoegpalacppllaaGreat.Tr

/- The law: a box plays what its coalition knows. -/
namespace Go.Proofs.YtoegpalacppllaaGreat
open Go.RowKit Pl
open Tr Hn
/-- whether one of the first of a list is in a coalition -/
def hasT (c m : List Int) (n : Nat) : Bool := (List.range n).any fun k => c.contains (at_ m k)
theorem hasT_succ (c m : List Int) (n : Nat) : hasT c m (n + 1) = (hasT c m n || c.contains (at_ m n)) := by simp [hasT, List.range_succ]
end Go.Proofs.YtoegpalacppllaaGreat

/- Parts of slices of subsets, and what is appended from them. No function of the program is in sight here. -/
namespace Go.Proofs.YtoegpalacppllaaGreat
open Go.RowKit Pl Tr Hn

def Sl.fromB (s : Sl) (k : Nat) : Sl := ⟨s.a.map fun ad => if s.c = k then ad else ad.add (k * 2), s.n - k, s.c - k⟩
theorem sl2_takeB : ∀ (l : List (Int × Int)) (k : Nat), sl2 (l.take k) = (sl2 l).take (2 * k)
  | [], k => by simp [sl2]
  | x :: l, 0 => by simp [sl2]
  | x :: l, k + 1 => by
    rw [List.take_succ_cons, show 2 * (k + 1) = 2 * k + 1 + 1 by omega]
    simp only [sl2, List.take_succ_cons, sl2_takeB l k]
theorem sl2_dropB : ∀ (l : List (Int × Int)) (k : Nat), sl2 (l.drop k) = (sl2 l).drop (2 * k)
  | [], k => by simp [sl2]
  | x :: l, 0 => by simp
  | x :: l, k + 1 => by
    rw [List.drop_succ_cons, show 2 * (k + 1) = 2 * k + 1 + 1 by omega]
    simp only [sl2, List.drop_succ_cons, sl2_dropB l k]
theorem RdB.to {w : World} {s : Sl} {l : List (Int × Int)} (h : RdB w s l) {k : Nat} (hk : k ≤ s.n) : RdB w (s.to k) (l.take k) := by
  have hn := h.len
  refine ⟨⟨by have := h.ok.le; show k ≤ s.c; omega, h.ok.nil⟩, by show k = _; simp; omega, fun j u hu => ?_⟩
  rw [sl2_takeB, List.getElem?_take] at hu
  split at hu
  · exact h.rd j u hu
  · cases hu
theorem RdB.from {w : World} {s : Sl} {l : List (Int × Int)} (h : RdB w s l) {k : Nat} (hk : k ≤ s.n) : RdB w (s.fromB k) (l.drop k) := by
  have hn := h.len
  have hle := h.ok.le
  refine ⟨⟨by show s.n - k ≤ s.c - k; omega, fun e => ?_⟩, by show s.n - k = _; simp; omega, fun j u hu => ?_⟩
  · have : s.a = none := by simpa [Sl.fromB] using e
    have := h.ok.nil this
    show s.c - k = 0
    omega
  · rw [sl2_dropB, List.getElem?_drop] at hu
    obtain ⟨b, i, ha, hc⟩ := h.rd (2 * k + j) u hu
    have hlt := (List.getElem?_eq_some_iff.1 hu).1
    rw [sl2_len] at hlt
    have hne : ¬ s.c = k := by omega
    refine ⟨b, i + k * 2, ?_, by rw [← hc]; congr 2; omega⟩
    simp [Sl.fromB, ha, hne, Addr.add_lit]
section
variable {P : Program} {ops : Array Oper} {Q : Exit → Act → World → Prop} {bs : List Value} {us : List (Nat × Value)} {ds : List Deferred} {w0 : Base} {W : World} {rest : List Oper} {o : Oper} {L Bs : List Blk} {d : Nat} {r : Option (Option Nat)} {m : Nat}
theorem r_sliceToB {t e k : Nat} {kd : IntKind} {s : Sl} {x y : Operand} (ht : P.underlying t = some (.slice e)) (hz : ∀ w, (sizeOf e).run P w = .ok 2 w) (ho : o.op = .slice t x none (some y) none)
    (hx : ev bs us x = s.v) (hy : ev bs us y = .int kd (k : Int)) (hn : k ≤ s.n) (hok : s.Ok) : Runs P bs us o (s.to k).v := by
  obtain ⟨a, n, c⟩ := s
  have hle := hok.le
  simp only at hn hle
  cases a with
  | none =>
    have hc := hok.nil rfl
    simp only at hc
    subst hc
    obtain rfl : k = 0 := by omega
    intro w
    unfold execOp
    simp [ho, hx, hy, Instr.sliceAt, Instr.slice, asIntOf, run_underlying ht, hz, Instr.sliceBounds, Instr.sliceBound, Sl.to]
  | some q => exact r_sliceToN (n := n) ht hz ho hx hy (show k ≤ c by omega)
theorem r_sliceFromB {t e k : Nat} {kd : IntKind} {s : Sl} {x y : Operand} (ht : P.underlying t = some (.slice e)) (hz : ∀ w, (sizeOf e).run P w = .ok 2 w) (ho : o.op = .slice t x (some y) none none)
    (hx : ev bs us x = s.v) (hy : ev bs us y = .int kd (k : Int)) (hn : k ≤ s.n) (hok : s.Ok) : Runs P bs us o (s.fromB k).v := fun w => by
  obtain ⟨a, n, c⟩ := s
  have hle := hok.le
  simp only at hn hle
  cases a with
  | none =>
    have hc := hok.nil rfl
    simp only at hc
    subst hc
    obtain rfl : n = 0 := by omega
    obtain rfl : k = 0 := by omega
    unfold execOp
    simp [ho, hx, hy, Instr.sliceAt, Instr.slice, asIntOf, run_underlying ht, hz, Instr.sliceBounds, Instr.sliceBound, Sl.fromB]
  | some q =>
    unfold execOp
    by_cases hc : c = k
    · simp [ho, hx, hy, Instr.sliceAt, Instr.slice, asIntOf, run_underlying ht, hz, Instr.sliceBounds, Instr.sliceBound, hn, hc, Sl.fromB]
    · simp [ho, hx, hy, Instr.sliceAt, Instr.slice, asIntOf, run_underlying ht, hz, Instr.sliceBounds, Instr.sliceBound, hn, hc, Sl.fromB]
/-- what is appended is read, and may be nothing -/
theorem l_appendRB {t e bytes : Nat} (hE : TyE P t e 2 bytes) {a : Option Addr} {n c : Nat} {xs : List Value} (hO : OwnSl e 2 a n c xs Bs) (hW : Cl w0 (L ++ Bs) W)
    {x y : Operand} {s : Sl} {l : List (Int × Int)} (hr : RdB W s l) {N : Nat} (hN : n + s.n = N) (hg : o.guard = none) (ho : o.op = .call { callee := .builtin .append, args := #[x, y], argTypes := #[t, t] }) (hs : ev bs us x = .slice a n c) (hx : ev bs us y = s.v) (hd : o.dst = some d)
    (b1 : N ≤ maxLen) (b2 : N * bytes ≤ 140737488355328)
    (h : ∀ a' c' Bs' W', OwnSl e 2 a' N c' (xs ++ sl2 l) Bs' → Cl w0 (L ++ Bs') W' → LW r m P ops Q rest (fr bs ((d, .slice a' N c') :: us) ds) W') : LW r m P ops Q (o :: rest) (fr bs us ds) W := by
  subst hN
  obtain ⟨ax, k, c2⟩ := s
  have hk : k = l.length := hr.len
  cases ax with
  | none =>
    have hc := hr.ok.nil rfl
    have hle := hr.ok.le
    simp only at hc hle
    subst hc
    obtain rfl : k = 0 := by omega
    have hn : l = [] := List.eq_nil_of_length_eq_zero (by omega)
    subst hn
    refine l_run hg (run_append_op ho hs hx (own_append_none hE hO hW o.type)) hd ?_
    have := h a c Bs W (by simpa [sl2] using hO) hW
    simpa using this
  | some q =>
    refine l_append hE hO hW rfl hg ho hs hx hd (by rw [sl2_len]; simp only; omega) (fun j u hu => ?_) (sl2_one l) b1 b2 h
    obtain ⟨b, i, ha, hc⟩ := hr.rd j u hu
    simp only [Option.some.injEq] at ha
    subst ha
    rw [Addr.add_lit]; exact hc
end
theorem pickE1 {b : Base} {W : World} {x : Blk} {R : List Blk} (h : Cl b (x :: R) W) : Cl b (R ++ [x]) W := h.perm (List.perm_append_comm (l₁ := [x]))
theorem pickE2 {b : Base} {W : World} {x y : Blk} {R : List Blk} (h : Cl b (y :: x :: R) W) : Cl b ((y :: R) ++ [x]) W := h.perm (.cons _ (List.perm_append_comm (l₁ := [x])))
theorem sl2_putL (l : List (Int × Int)) (p : Nat) (v w : Int) : (sl2 (l.take p) ++ [.int .i64 v, .int .i64 w]) ++ sl2 (l.drop p) = sl2 (putL l p (v, w)) := by
  rw [putL, sl2_append, List.append_assoc]; rfl
theorem GivesX.mono {P : Program} {f : FuncId} {args : Array Value} {Pre : World → Prop} {X Y : Value → List Blk → Prop} (h : GivesX P f args Pre X) (hxy : ∀ v Bs, X v Bs → Y v Bs) : GivesX P f args Pre Y := fun w hp => (h w hp).mono fun _ _ ⟨v, Bs, he, hx, hc⟩ => ⟨v, Bs, he, hxy v Bs hx, hc⟩
end Go.Proofs.YtoegpalacppllaaGreat

/- The law: what is not open to a box does not count. -/
namespace Go.Proofs.YtoegpalacppllaaGreat
open Go.RowKit Pl
open Tr Hn
/-- members of a subset, of any scheme -/
theorem g_MembersA (s : Sc) (v x : Int) : GivesX Tryz.prog 43 [.agg [.int .u8 s.k, .int .i64 s.d, .int .i64 s.g, .int .u64 s.p, .int .u64 s.q, .int .u64 s.r].toArray, .agg [.int .i64 v, .int .i64 x].toArray].toArray (fun _ => True) (fun u Bs => ∃ (t : Sl) (e : Int), u = .tuple #[t.v, .int .i64 e] ∧ (e = 0 → schB s = true ∧ subB s v x = true ∧ NewI t (membersN s v x (p2 s.d.toNat)) Bs)) := by
 cases hs : schB s with
 | true =>
  refine (g_Members s v x hs).mono ?_
  rintro _ Bs ⟨t, rfl, hN⟩
  refine ⟨t, _, rfl, fun h => ?_⟩
  cases hb : subB s v x with
  | true => exact ⟨rfl, rfl, hN hb⟩
  | false => rw [hb] at h; exact absurd h (by decide)
 | false =>
  refine (g_MembersX s v x hs).mono ?_
  rintro _ _ ⟨rfl, rfl⟩
  exact ⟨Sl.no, 30, rfl, fun h => absurd h (by decide)⟩
set_option maxRecDepth 10000 in
set_option maxHeartbeats 2000000 in
/-- headend/headendlaw08.TraceBlind -/
theorem g_TraceBlind (b : Bo) (t : Sl) (ra : Option Addr) (rn rc : Nat) (l : List (Int × Int)) (f v y p : Int) : GivesR Tryz.prog 10 [.agg (boC b t).toArray, .slice ra rn rc, .int .i64 f, .agg [.int .i64 v, .int .i64 y].toArray, .int .i64 p].toArray (fun w => RdI w t b.l ∧ RdB w ⟨ra, rn, rc⟩ l) (.bool true) := by
 refine givesR_of Tryz.func10 rfl (bs := [.agg (boC b t).toArray, .slice ra rn rc, .int .i64 f, .agg [.int .i64 v, .int .i64 y].toArray, .int .i64 p, undef, undef, undef, undef, undef, undef, undef, undef, undef, undef, undef, undef, undef, undef, undef, undef, undef, undef, undef, undef, undef, undef, undef, undef, undef, undef, undef, undef, undef, undef, undef, undef, undef, undef, undef, undef, undef, undef, undef, undef, undef, undef, undef, undef, undef, undef, undef, undef, undef, undef, undef, undef, undef, undef, undef, undef, undef, undef, undef, undef, undef, undef, undef, undef, undef, undef, undef, undef, undef, undef, undef, undef, undef, undef, undef, undef, undef, undef, undef, undef, undef, undef, undef, undef, undef, undef, undef, undef, undef, undef, undef, undef, undef, undef, undef, undef, undef, undef, undef, undef, undef, undef, undef, undef, undef, undef, undef, undef, undef, undef, undef, undef, undef, undef, undef, undef]) rfl ?_
 intro w hP hW
 have hn := hP.1.len
 have hrn : rn = l.length := hP.2.len
 refine c_seq (c_reg ?_)
 refine xB hW ?_
 intro g1 W hW
 refine xB hW ?_
 intro g2 W hW
 refine bB ?_
 refine l_end (n_then (c_seq (c_reg ?_)))
 refine l_callR hW (Pre := fun _ => True) (fun w _ => g_alive w) en31 trivial rfl rfl rfl rfl ?_
 intro W hW
 refine bB ?_
 refine l_end (n_then (c_seq (c_seq (c_reg ?_))))
 refine l_val (r_fieldAddr 6 Tryz.underlying31 rfl tyC27.size rfl rfl rfl) rfl rfl ?_
 refine dC hW 1 tyC27 ?_
 refine l_val (r_lenSlice Tryz.underlying27 rfl rfl) rfl rfl ?_
 refine l_val (r_gtrN (n := 100) rfl rfl rfl rfl) rfl rfl ?_
 refine l_split ?_ ?_
 ·intro hc1
  replace hc1 := of_decide_eq_true hc1
  refine aB ?_
  refine lN ?_
  refine lN ?_
  refine lN ?_
  refine kB ?_
  refine aB ?_
  refine lN ?_
  refine lN ?_
  refine kB ?_
  refine aB ?_
  refine lN ?_
  refine lN ?_
  refine lN ?_
  refine lN ?_
  refine kB ?_
  refine aB ?_
  refine lN ?_
  refine lN ?_
  refine kB ?_
  refine l_end (n_then ?_)
  refine c_true rfl ?_
  refine c_seq (c_reg ?_)
  refine aB ?_
  refine bB ?_
  refine l_end (n_then (c_ret (r_then ?_)))
  refine ret_tmp (v := .bool true) rfl ?_ ⟨rfl, hW.below⟩
  rfl
 ·intro hc1
  replace hc1 := of_decide_eq_false hc1
  refine aB ?_
  refine l_valG (r_move (v := .slice _ _ _) rfl rfl) (by kernel_rfl) rfl ?_
  refine l_valG (r_lenSlice Tryz.underlying33 rfl rfl) (by kernel_rfl) rfl ?_
  refine l_valG (r_gtrN (n := 63) rfl rfl rfl rfl) (by kernel_rfl) rfl ?_
  refine l_split ?_ ?_
  ·intro hc2
   replace hc2 := of_decide_eq_true hc2
   refine kB ?_
   refine aB ?_
   refine lN ?_
   refine lN ?_
   refine kB ?_
   refine aB ?_
   refine lN ?_
   refine lN ?_
   refine lN ?_
   refine lN ?_
   refine kB ?_
   refine aB ?_
   refine lN ?_
   refine lN ?_
   refine kB ?_
   refine l_end (n_then ?_)
   refine c_true rfl ?_
   refine c_seq (c_reg ?_)
   refine aB ?_
   refine bB ?_
   refine l_end (n_then (c_ret (r_then ?_)))
   refine ret_tmp (v := .bool true) rfl ?_ ⟨rfl, hW.below⟩
   rfl
  ·intro hc2
   replace hc2 := of_decide_eq_false hc2
   refine kB ?_
   refine aB ?_
   refine gI ?_
   refine l_valG (r_lss rfl rfl rfl rfl) (by kernel_rfl) rfl ?_
   refine l_split ?_ ?_
   ·intro hc3
    replace hc3 := of_decide_eq_true hc3
    refine kB ?_
    refine aB ?_
    refine lN ?_
    refine lN ?_
    refine lN ?_
    refine lN ?_
    refine kB ?_
    refine aB ?_
    refine lN ?_
    refine lN ?_
    refine kB ?_
    refine l_end (n_then ?_)
    refine c_true rfl ?_
    refine c_seq (c_reg ?_)
    refine aB ?_
    refine bB ?_
    refine l_end (n_then (c_ret (r_then ?_)))
    refine ret_tmp (v := .bool true) rfl ?_ ⟨rfl, hW.below⟩
    rfl
   ·intro hc3
    replace hc3 := of_decide_eq_false hc3
    refine kB ?_
    refine aB ?_
    refine gI ?_
    refine l_valG (r_move (v := .slice _ _ _) rfl rfl) (by kernel_rfl) rfl ?_
    refine l_valG (r_lenSlice Tryz.underlying33 rfl rfl) (by kernel_rfl) rfl ?_
    refine l_valG (r_gtr rfl rfl rfl rfl) (by kernel_rfl) rfl ?_
    refine l_split ?_ ?_
    ·intro hc4
     replace hc4 := of_decide_eq_true hc4
     refine kB ?_
     refine aB ?_
     refine lN ?_
     refine lN ?_
     refine kB ?_
     refine l_end (n_then ?_)
     refine c_true rfl ?_
     refine c_seq (c_reg ?_)
     refine aB ?_
     refine bB ?_
     refine l_end (n_then (c_ret (r_then ?_)))
     refine ret_tmp (v := .bool true) rfl ?_ ⟨rfl, hW.below⟩
     rfl
    ·intro hc4
     replace hc4 := of_decide_eq_false hc4
     have hl : b.l.length ≤ 100 := by omega
     have hq : l.length ≤ 63 := by omega
     have hp0 : 0 ≤ p := by omega
     have hpr : p.toNat ≤ rn := by omega
     have hplen : p.toNat ≤ l.length := by omega
     refine kB ?_
     refine aB ?_
     refine l_valG (r_move (v := .bool _) rfl rfl) (by kernel_rfl) rfl ?_
     refine l_valG (r_not rfl rfl) (by kernel_rfl) rfl ?_
     refine kB ?_
     refine l_end (n_then ?_)
     refine c_false rfl ?_
     refine c_skip (n_then (c_seq (c_reg ?_)))
     refine l_val (r_fieldAddr 0 Tryz.underlying31 rfl tyA26.size rfl rfl rfl) rfl rfl ?_
     refine l_loadP hW 1 tyA26 rfl rfl rfl rfl rfl (by first | rfl | omega | (simp; done) | (simp; omega)) rfl ?_
     refine dA hW 0 tyA64 ?_
     refine l_callX hW (g_MembersA b.s v y) en43 trivial rfl rfl rfl rfl ?_
     rintro _ BM W ⟨tM, ee, rfl, hMM⟩ hW
     refine l_val (r_move (v := .tuple _) rfl rfl) rfl rfl ?_
     refine l_val (r_extract (v := .slice _ _ _) rfl rfl rfl) rfl rfl ?_
     refine l_val (r_extract (v := .int _ _) rfl rfl rfl) rfl rfl ?_
     refine bS ?_
     refine bI ?_
     refine l_end (n_then (c_seq (c_seq (c_reg ?_))))
     refine aI ?_
     refine l_val (r_neq rfl rfl rfl rfl) rfl rfl ?_
     refine l_split ?_ ?_
     ·intro hc5
      replace hc5 := of_decide_eq_true hc5
      refine l_end (n_then ?_)
      refine c_true rfl ?_
      refine c_seq (c_reg ?_)
      refine aB ?_
      refine bB ?_
      refine l_end (n_then (c_ret (r_then ?_)))
      refine ret_tmp (v := .bool true) rfl ?_ ⟨rfl, hW.below⟩
      rfl
     ·intro hc5
      replace hc5 := of_decide_eq_false hc5
      obtain ⟨hs, hsub, nM⟩ := hMM (by omega)
      have hmn := nM.n
      have hml := mem_len b.s v y (p2 b.s.d.toNat)
      have hp6 := p2_le (n := b.s.d.toNat) (by have := schB_iff.1 hs; omega)
      refine l_end (n_then ?_)
      refine c_false rfl ?_
      refine c_skip (n_then (c_seq (c_seq (c_reg ?_))))
      refine aS ?_
      refine l_val (r_lenSlice Tryz.underlying27 rfl rfl) rfl rfl ?_
      refine aI ?_
      refine l_end (n_then (c_block ?_))
      refine c_loop (fun (i : Nat) (j : Nat → Value) => [.agg (boC b t).toArray, .slice ra rn rc, .int .i64 f, .agg [.int .i64 v, .int .i64 y].toArray, .int .i64 p, .pointer (some ⟨g1, 0, none⟩), j 6, j 7, .pointer (some ⟨g2, 0, none⟩), j 9, j 10, .bool true, .slice tM.a tM.n tM.c, .int .i64 ee, j 14, j 15, j 16, j 17, j 18, j 19, j 20, j 21, j 22, .bool true, .pointer (some ⟨g1, 6, none⟩), .slice t.a t.n t.c, .int .i64 (t.n : Int), .bool false, .bool false, .slice ra rn rc, .int .i64 (rn : Int), .bool false, .bool false, .bool false, .int .i64 p, .bool false, .bool false, .bool false, .int .i64 p, .slice ra rn rc, .int .i64 (rn : Int), .bool false, .bool false, .bool false, .bool true, .bool false, .bool false, j 47, .tuple #[.slice tM.a tM.n tM.c, .int .i64 ee], .pointer (some ⟨g1, 0, none⟩), .agg [.int .u8 b.s.k, .int .i64 b.s.d, .int .i64 b.s.g, .int .u64 b.s.p, .int .u64 b.s.q, .int .u64 b.s.r].toArray, .agg ([.int .i64 v, .int .i64 y]).toArray, .tuple #[.slice tM.a tM.n tM.c, .int .i64 ee], .slice tM.a tM.n tM.c, .int .i64 ee, .int .i64 ee, .bool false, j 57, .slice tM.a tM.n tM.c, .int .i64 (tM.n : Int), .int .i64 (i : Int), j 61, j 62, j 63, j 64, j 65, j 66, j 67, j 68, j 69, j 70, j 71, j 72, j 73, j 74, j 75, j 76, j 77, j 78, j 79, j 80, j 81, j 82, j 83, j 84, j 85, j 86, j 87, j 88, j 89, j 90, j 91, j 92, j 93, j 94, j 95, j 96, j 97, j 98, j 99, j 100, j 101, j 102, j 103, j 104, j 105, j 106, j 107, j 108, j 109, j 110, j 111, j 112, j 113, j 114, j 115, j 116, j 117, j 118, j 119, j 120]) (fun (i : Nat) => [⟨g2, [.int .i64 v, .int .i64 y], 64⟩, ⟨g1, (boC b t), 31⟩] ++ BM) (fun (i : Nat) => i ≤ tM.n ∧ hasT b.l (membersN b.s v y (p2 b.s.d.toNat)) i = false) (fun (i : Nat) => tM.n - i) 0 (by kernel_rfl) hW ⟨Nat.zero_le _, rfl⟩ ?_
      intro i j W hx hW
      refine c_seq (c_reg ?_)
      refine l_val (r_lssN rfl rfl rfl rfl) rfl rfl ?_
      refine l_split ?_ ?_
      ·intro hc6
       replace hc6 := of_decide_eq_true hc6
       obtain ⟨b2, o2, ha, hd⟩ := ((nM.rep.at (show Cl _ ([_, _] ++ BM) _ from hW) ((List.sublist_append_right _ BM)))).ptr (by omega)
       refine l_end (n_then (c_seq ?_))
       refine c_true rfl ?_
       refine c_skip (n_then (c_seq (c_block (c_seq (c_reg ?_)))))
       refine l_val (r_indexAddrSl2 (n := i) Tryz.underlying27 tyC3.size rfl (congrArg (fun a => Value.slice a tM.n tM.c) ha) rfl (by omega)) rfl rfl ?_
       refine l_loadW tyC3 (v := .int .i64 (at_ (membersN b.s v y (p2 b.s.d.toNat)) (i))) (hd (i) (by omega)) rfl rfl rfl rfl ?_
       refine bI ?_
       refine l_end (n_then (c_seq (c_reg ?_)))
       refine l_val (r_fieldAddr 6 Tryz.underlying31 rfl tyC27.size rfl rfl rfl) rfl rfl ?_
       refine dC hW 1 tyC27 ?_
       refine aI ?_
       refine l_callR hW (g_in t.a t.n t.c b.l (at_ (membersN b.s v y (p2 b.s.d.toNat)) i) (by omega)) en40 (hP.1.past hW.below) rfl rfl rfl rfl ?_
       intro W hW
       refine l_split ?_ ?_
       ·intro hc7
        refine l_end (n_then ?_)
        refine c_true rfl ?_
        refine c_seq (c_reg ?_)
        refine aB ?_
        refine bB ?_
        refine l_end (n_then (c_ret (r_block (r_then (r_then (r_block (r_then ?_)))))))
        refine ret_tmp (v := .bool true) rfl ?_ ⟨rfl, hW.below⟩
        rfl
       ·intro hc7
        refine l_end (n_then ?_)
        refine c_false rfl ?_
        refine c_skip (n_block (n_then (c_reg ?_)))
        refine l_val (r_addN (n := 1) rfl rfl rfl (by omega)) rfl rfl ?_
        refine aI ?_
        refine l_end (n_then ?_)
        exact loop_next (i + 1) (by kernel_rfl) hW ⟨by omega, by rw [hasT_succ, hx.2, hc7]; rfl⟩ (by omega)
      ·intro hc6
       replace hc6 := of_decide_eq_false hc6
       have hnone : hasP b.l (membersN b.s v y (p2 b.s.d.toNat)) = false := by rw [← hx.2, show i = (membersN b.s v y (p2 b.s.d.toNat)).length by omega]; rfl
       refine l_end (n_then (c_seq ?_))
       refine c_false rfl ?_
       refine c_exit (x_then (x_then ?_))
       refine x_hit ?_
       refine n_then (c_seq (c_reg ?_))
       refine dA hW 1 tyA31 ?_
       refine aS ?_
       refine aI ?_
       refine l_callX hW (g_Ask b t ra rn rc l f hl (by omega)) en34 ⟨hP.1.past hW.below, hP.2.past hW.below⟩ rfl rfl rfl rfl ?_
       rintro _ BA W ⟨s1, rfl, nA⟩ hW
       refine l_val (r_move (v := .tuple _) rfl rfl) rfl rfl ?_
       refine l_val (r_extract (v := .agg _) rfl rfl rfl) rfl rfl ?_
       refine l_val (r_extract (v := .bool _) rfl rfl rfl) rfl rfl ?_
       refine l_val (r_extract (v := .int _ _) rfl rfl rfl) rfl rfl ?_
       refine l_alloc hW tyZ31 rfl rfl rfl ?_
       intro g3 W hW
       refine sA hW 0 tyA31 ?_
       intro W hW
       refine bB ?_
       refine bI ?_
       refine l_end (n_then (c_seq (c_seq (c_reg ?_))))
       refine aI ?_
       refine l_val (r_neq rfl rfl rfl rfl) rfl rfl ?_
       refine l_split ?_ ?_
       ·intro hc8
        replace hc8 := of_decide_eq_true hc8
        refine l_end (n_then ?_)
        refine c_true rfl ?_
        refine c_seq (c_reg ?_)
        refine aB ?_
        refine bB ?_
        refine l_end (n_then (c_ret (r_then ?_)))
        refine ret_tmp (v := .bool true) rfl ?_ ⟨rfl, hW.below⟩
        rfl
       ·intro hc8
        replace hc8 := of_decide_eq_false hc8
        have he : askE b l f = 0 := by omega
        obtain ⟨c1, c2, c3, c4, c5⟩ := askE_ok he
        obtain ⟨-, hu, -⟩ := chkB_ok (show ¬ chkB b ≠ 0 by omega)
        have hop : opnB b.s b.l v y = false := by rw [← hasP_opn hu]; exact hnone
        obtain ⟨hB, hC⟩ := blind (b := b) (l := l) (f := f) (p := p.toNat) (x := (v, y)) hplen hop
        have hA := askE_put (b := b) (l := l) (f := f) (p := p.toNat) (x := (v, y)) (by omega) hplen hsub he
        have hfl : (askX b l f).l.length ≤ 100 := by rw [(askX_yes he).1, askd, after_l]; exact hl
        refine l_end (n_then ?_)
        refine c_false rfl ?_
        refine c_skip (n_then (c_seq ?_))
        refine c_regX hW 13 (by kernel_rfl) rfl ?_
        intro W hW
        refine awt 1 (by kernel_rfl) (by kernel_rfl) (by kernel_rfl) rfl rfl (r_move (v := .slice _ _ _) rfl rfl) (by kernel_rfl) (fun _ _ _ h => h) ?_
        refine awt 2 (by kernel_rfl) (by kernel_rfl) (by kernel_rfl) rfl rfl (r_move (v := .int _ _) rfl rfl) (by kernel_rfl) (fun _ _ _ h => h) ?_
        refine awt 3 (by kernel_rfl) (by kernel_rfl) (by kernel_rfl) rfl rfl (r_sliceToB (s := (⟨ra, rn, rc⟩ : Sl)) (k := p.toNat) Tryz.underlying33 tyA64.size rfl rfl (congrArg (Value.int .i64) (Int.toNat_of_nonneg hp0).symm) hpr hP.2.ok) (by kernel_rfl) (fun _ _ _ h => h) ?_
        refine awt 8 (by kernel_rfl) (by kernel_rfl) (by kernel_rfl) rfl rfl (r_move (v := .slice _ _ _) rfl rfl) (by kernel_rfl) (fun _ _ _ h => h) ?_
        refine awt 9 (by kernel_rfl) (by kernel_rfl) (by kernel_rfl) rfl rfl (r_move (v := .int _ _) rfl rfl) (by kernel_rfl) (fun _ _ _ h => h) ?_
        refine awt 10 (by kernel_rfl) (by kernel_rfl) (by kernel_rfl) rfl rfl (r_sliceFromB (s := (⟨ra, rn, rc⟩ : Sl)) (k := p.toNat) Tryz.underlying33 tyA64.size rfl rfl (congrArg (Value.int .i64) (Int.toNat_of_nonneg hp0).symm) hpr hP.2.ok) (by kernel_rfl) (fun _ _ _ h => h) ?_
        refine awn [0, 5] (by kernel_rfl) (by simp) ⟨⟨_, rfl, ?_⟩, ⟨_, rfl, ?_⟩, trivial⟩
        ·skip
         refine l_buildSliceF hW bsl33_0_ rfl rfl rfl rfl ?_
         intro ge W hW
         refine l_end (n_A ?_)
         refine awn [4, 5] (by kernel_rfl) (by simp) ⟨⟨_, rfl, ?_⟩, ⟨_, rfl, ?_⟩, trivial⟩
         ·skip
          refine l_appendRB tyE33 (L := (([_, _, _] ++ BM) ++ BA)) (OwnSl.full (e := 64) (sz := 2) (n := 0) (vs := []) rfl (Nat.zero_le _)) (pickE1 (show Cl _ (_ :: (([_, _, _] ++ BM) ++ BA)) _ from hW)) ((hP.2.past hW.below).to (k := p.toNat) hpr) (Nat.zero_add _) rfl rfl rfl rfl rfl (by show p.toNat ≤ maxLen; unfold maxLen; omega) (by show p.toNat * _ ≤ _; omega) ?_
          intro a1 c1 Bs1 W hO1 hW
          refine l_end (n_A ?_)
          refine aw1 5 (by kernel_rfl) rfl ?_
          refine dA hW 1 tyA64 ?_
          refine l_end (n_A ?_)
          refine aw1 6 (by kernel_rfl) rfl ?_
          refine l_buildSliceF hW (bsl33_1_0 _ _) rfl rfl rfl rfl ?_
          intro gb W hW
          refine l_end (n_A ?_)
          refine aw1 7 (by kernel_rfl) rfl ?_
          refine l_appendB tyE33 (L := (([_, _, _, _] ++ BM) ++ BA)) hO1 hW 0 (N := p.toNat + 1) rfl rfl rfl rfl rfl rfl rfl rfl (by simp [Value.oneCell']) (by unfold maxLen; omega) (by omega) ?_
          intro a2 c2 Bs2 W hO2 hW
          refine l_end (n_A ?_)
          refine aw1 11 (by kernel_rfl) rfl ?_
          refine l_appendRB tyE33 (L := (([_, _, _, _] ++ BM) ++ BA)) hO2 hW ((hP.2.past hW.below).from (k := p.toNat) hpr) (N := l.length + 1) (by show p.toNat + 1 + (rn - p.toNat) = _; have : p.toNat ≤ rn := hpr; omega) rfl rfl rfl rfl rfl (by unfold maxLen; omega) (by omega) ?_
          intro a3 c3 Bs3 W hO3 hW
          replace hO3 := hO3.castx rfl (xs' := sl2 (putL l p.toNat (v, y))) (sl2_putL l p.toNat v y)
          refine l_end (n_A ?_)
          refine aw1 12 (by kernel_rfl) rfl ?_
          refine bS ?_
          refine l_end (n_A ?_)
          refine aw0 (by kernel_rfl) ?_
          refine n_then (c_seq (c_seq (c_reg ?_)))
          refine aI ?_
          refine aI ?_
          refine l_val (r_lss rfl rfl rfl rfl) rfl rfl ?_
          refine l_split ?_ ?_
          ·intro hc9
           replace hc9 := of_decide_eq_true hc9
           rw [if_pos (show ((p.toNat : Nat) : Int) < f by omega)] at hA hB hC
           refine l_end (n_then ?_)
           refine c_true rfl ?_
           refine c_reg ?_
           refine aI ?_
           refine l_val (r_addZ rfl rfl rfl (by omega)) rfl rfl ?_
           refine bI ?_
           refine l_end (n_then (c_seq (c_reg ?_)))
           refine dA hW 3 tyA31 ?_
           refine aS ?_
           refine aI ?_
           refine l_callX hW (g_Ask b t a3 (l.length + 1) c3 (putL l p.toNat (v, y)) (f + 1) hl (by rw [putL_len (by omega)]; omega)) en34 ⟨hP.1.past hW.below, (hO3.repB.at (show Cl _ ((([_, _, _, _] ++ BM) ++ BA) ++ Bs3) _ from hW) ((List.sublist_append_right _ Bs3)))⟩ rfl rfl rfl rfl ?_
           rintro _ BB W ⟨s2, rfl, nB⟩ hW
           rw [show askX b (putL l p.toNat (v, y)) (f + 1) = askX b l f from by rw [(askX_yes hA).1, (askX_yes he).1]; exact hB] at nB ⊢
           rw [show askP b (putL l p.toNat (v, y)) (f + 1) = askP b l f from by rw [(askX_yes hA).2, (askX_yes he).2]; exact hC, hA]
           refine l_val (r_move (v := .tuple _) rfl rfl) rfl rfl ?_
           refine l_val (r_extract (v := .agg _) rfl rfl rfl) rfl rfl ?_
           refine l_val (r_extract (v := .bool _) rfl rfl rfl) rfl rfl ?_
           refine l_val (r_extract (v := .int _ _) rfl rfl rfl) rfl rfl ?_
           refine l_alloc hW tyZ31 rfl rfl rfl ?_
           intro g4 W hW
           refine sA hW 0 tyA31 ?_
           intro W hW
           refine bB ?_
           refine bI ?_
           refine l_end (n_then (c_seq (c_reg ?_)))
           refine aB ?_
           refine aB ?_
           refine gI ?_
           refine l_valG (r_eql (b := true) rfl rfl rfl (by decide)) (by kernel_rfl) rfl ?_
           refine kB ?_
           refine aB ?_
           refine l_valG (r_move (v := .bool _) rfl rfl) (by kernel_rfl) rfl ?_
           refine l_valG (r_move (v := .bool _) rfl rfl) (by kernel_rfl) rfl ?_
           refine l_valG (r_eqlBool (c := true) Tryz.underlying4 rfl rfl rfl (by simp)) (by kernel_rfl) rfl ?_
           refine kB ?_
           refine aB ?_
           refine l_loadAG hW 2 tyA31 (by kernel_rfl) rfl rfl rfl rfl (by first | rfl | exact kc_len _ | exact kcf_len _ | exact boC_len _ _ | (simp; done)) ?_
           refine l_loadAG hW 0 tyA31 (by kernel_rfl) rfl rfl rfl rfl (by first | rfl | exact kc_len _ | exact kcf_len _ | exact boC_len _ _ | (simp; done)) ?_
           refine l_callRG hW (g_SameBox (askX b l f) s1 s2 hfl) en26 ⟨(nA.rep.at (show Cl _ (((([_, _, _, _, _] ++ BM) ++ BA) ++ Bs3) ++ BB) _ from hW) ((((List.sublist_append_right _ BA).trans (List.sublist_append_left _ Bs3)).trans (List.sublist_append_left _ BB)))), (nB.rep.at (show Cl _ (((([_, _, _, _, _] ++ BM) ++ BA) ++ Bs3) ++ BB) _ from hW) ((List.sublist_append_right _ BB)))⟩ (by kernel_rfl) rfl rfl rfl ?_
           intro W hW
           refine kB ?_
           refine bB ?_
           refine l_end (n_then (c_ret ?_))
           refine ret_tmp (v := .bool true) rfl ?_ ⟨rfl, hW.below⟩
           rfl
          ·intro hc9
           replace hc9 := of_decide_eq_false hc9
           rw [if_neg (show ¬ ((p.toNat : Nat) : Int) < f by omega)] at hA hB hC
           refine l_end (n_then ?_)
           refine c_false rfl ?_
           refine c_skip (n_then (c_seq (c_reg ?_)))
           refine dA hW 3 tyA31 ?_
           refine aS ?_
           refine aI ?_
           refine l_callX hW (g_Ask b t a3 (l.length + 1) c3 (putL l p.toNat (v, y)) (f) hl (by rw [putL_len (by omega)]; omega)) en34 ⟨hP.1.past hW.below, (hO3.repB.at (show Cl _ ((([_, _, _, _] ++ BM) ++ BA) ++ Bs3) _ from hW) ((List.sublist_append_right _ Bs3)))⟩ rfl rfl rfl rfl ?_
           rintro _ BB W ⟨s2, rfl, nB⟩ hW
           rw [show askX b (putL l p.toNat (v, y)) (f) = askX b l f from by rw [(askX_yes hA).1, (askX_yes he).1]; exact hB] at nB ⊢
           rw [show askP b (putL l p.toNat (v, y)) (f) = askP b l f from by rw [(askX_yes hA).2, (askX_yes he).2]; exact hC, hA]
           refine l_val (r_move (v := .tuple _) rfl rfl) rfl rfl ?_
           refine l_val (r_extract (v := .agg _) rfl rfl rfl) rfl rfl ?_
           refine l_val (r_extract (v := .bool _) rfl rfl rfl) rfl rfl ?_
           refine l_val (r_extract (v := .int _ _) rfl rfl rfl) rfl rfl ?_
           refine l_alloc hW tyZ31 rfl rfl rfl ?_
           intro g5 W hW
           refine sA hW 0 tyA31 ?_
           intro W hW
           refine bB ?_
           refine bI ?_
           refine l_end (n_then (c_seq (c_reg ?_)))
           refine aB ?_
           refine aB ?_
           refine gI ?_
           refine l_valG (r_eql (b := true) rfl rfl rfl (by decide)) (by kernel_rfl) rfl ?_
           refine kB ?_
           refine aB ?_
           refine l_valG (r_move (v := .bool _) rfl rfl) (by kernel_rfl) rfl ?_
           refine l_valG (r_move (v := .bool _) rfl rfl) (by kernel_rfl) rfl ?_
           refine l_valG (r_eqlBool (c := true) Tryz.underlying4 rfl rfl rfl (by simp)) (by kernel_rfl) rfl ?_
           refine kB ?_
           refine aB ?_
           refine l_loadAG hW 2 tyA31 (by kernel_rfl) rfl rfl rfl rfl (by first | rfl | exact kc_len _ | exact kcf_len _ | exact boC_len _ _ | (simp; done)) ?_
           refine l_loadAG hW 0 tyA31 (by kernel_rfl) rfl rfl rfl rfl (by first | rfl | exact kc_len _ | exact kcf_len _ | exact boC_len _ _ | (simp; done)) ?_
           refine l_callRG hW (g_SameBox (askX b l f) s1 s2 hfl) en26 ⟨(nA.rep.at (show Cl _ (((([_, _, _, _, _] ++ BM) ++ BA) ++ Bs3) ++ BB) _ from hW) ((((List.sublist_append_right _ BA).trans (List.sublist_append_left _ Bs3)).trans (List.sublist_append_left _ BB)))), (nB.rep.at (show Cl _ (((([_, _, _, _, _] ++ BM) ++ BA) ++ Bs3) ++ BB) _ from hW) ((List.sublist_append_right _ BB)))⟩ (by kernel_rfl) rfl rfl rfl ?_
           intro W hW
           refine kB ?_
           refine bB ?_
           refine l_end (n_then (c_ret ?_))
           refine ret_tmp (v := .bool true) rfl ?_ ⟨rfl, hW.below⟩
           rfl
         ·skip
          refine dA hW 2 tyA64 ?_
          refine l_end (n_A ?_)
          refine awn [4, 6] (by kernel_rfl) (by simp) ⟨⟨_, rfl, ?_⟩, ⟨_, rfl, ?_⟩, trivial⟩
          ·skip
           refine l_appendRB tyE33 (L := (([_, _, _] ++ BM) ++ BA)) (OwnSl.full (e := 64) (sz := 2) (n := 0) (vs := []) rfl (Nat.zero_le _)) (pickE1 (show Cl _ (_ :: (([_, _, _] ++ BM) ++ BA)) _ from hW)) ((hP.2.past hW.below).to (k := p.toNat) hpr) (Nat.zero_add _) rfl rfl rfl rfl rfl (by show p.toNat ≤ maxLen; unfold maxLen; omega) (by show p.toNat * _ ≤ _; omega) ?_
           intro a1 c1 Bs1 W hO1 hW
           refine l_end (n_A ?_)
           refine aw1 6 (by kernel_rfl) rfl ?_
           refine l_buildSliceF hW (bsl33_1_0 _ _) rfl rfl rfl rfl ?_
           intro gb W hW
           refine l_end (n_A ?_)
           refine aw1 7 (by kernel_rfl) rfl ?_
           refine l_appendB tyE33 (L := (([_, _, _, _] ++ BM) ++ BA)) hO1 hW 0 (N := p.toNat + 1) rfl rfl rfl rfl rfl rfl rfl rfl (by simp [Value.oneCell']) (by unfold maxLen; omega) (by omega) ?_
           intro a2 c2 Bs2 W hO2 hW
           refine l_end (n_A ?_)
           refine aw1 11 (by kernel_rfl) rfl ?_
           refine l_appendRB tyE33 (L := (([_, _, _, _] ++ BM) ++ BA)) hO2 hW ((hP.2.past hW.below).from (k := p.toNat) hpr) (N := l.length + 1) (by show p.toNat + 1 + (rn - p.toNat) = _; have : p.toNat ≤ rn := hpr; omega) rfl rfl rfl rfl rfl (by unfold maxLen; omega) (by omega) ?_
           intro a3 c3 Bs3 W hO3 hW
           replace hO3 := hO3.castx rfl (xs' := sl2 (putL l p.toNat (v, y))) (sl2_putL l p.toNat v y)
           refine l_end (n_A ?_)
           refine aw1 12 (by kernel_rfl) rfl ?_
           refine bS ?_
           refine l_end (n_A ?_)
           refine aw0 (by kernel_rfl) ?_
           refine n_then (c_seq (c_seq (c_reg ?_)))
           refine aI ?_
           refine aI ?_
           refine l_val (r_lss rfl rfl rfl rfl) rfl rfl ?_
           refine l_split ?_ ?_
           ·intro hc10
            replace hc10 := of_decide_eq_true hc10
            rw [if_pos (show ((p.toNat : Nat) : Int) < f by omega)] at hA hB hC
            refine l_end (n_then ?_)
            refine c_true rfl ?_
            refine c_reg ?_
            refine aI ?_
            refine l_val (r_addZ rfl rfl rfl (by omega)) rfl rfl ?_
            refine bI ?_
            refine l_end (n_then (c_seq (c_reg ?_)))
            refine dA hW 3 tyA31 ?_
            refine aS ?_
            refine aI ?_
            refine l_callX hW (g_Ask b t a3 (l.length + 1) c3 (putL l p.toNat (v, y)) (f + 1) hl (by rw [putL_len (by omega)]; omega)) en34 ⟨hP.1.past hW.below, (hO3.repB.at (show Cl _ ((([_, _, _, _] ++ BM) ++ BA) ++ Bs3) _ from hW) ((List.sublist_append_right _ Bs3)))⟩ rfl rfl rfl rfl ?_
            rintro _ BB W ⟨s2, rfl, nB⟩ hW
            rw [show askX b (putL l p.toNat (v, y)) (f + 1) = askX b l f from by rw [(askX_yes hA).1, (askX_yes he).1]; exact hB] at nB ⊢
            rw [show askP b (putL l p.toNat (v, y)) (f + 1) = askP b l f from by rw [(askX_yes hA).2, (askX_yes he).2]; exact hC, hA]
            refine l_val (r_move (v := .tuple _) rfl rfl) rfl rfl ?_
            refine l_val (r_extract (v := .agg _) rfl rfl rfl) rfl rfl ?_
            refine l_val (r_extract (v := .bool _) rfl rfl rfl) rfl rfl ?_
            refine l_val (r_extract (v := .int _ _) rfl rfl rfl) rfl rfl ?_
            refine l_alloc hW tyZ31 rfl rfl rfl ?_
            intro g6 W hW
            refine sA hW 0 tyA31 ?_
            intro W hW
            refine bB ?_
            refine bI ?_
            refine l_end (n_then (c_seq (c_reg ?_)))
            refine aB ?_
            refine aB ?_
            refine gI ?_
            refine l_valG (r_eql (b := true) rfl rfl rfl (by decide)) (by kernel_rfl) rfl ?_
            refine kB ?_
            refine aB ?_
            refine l_valG (r_move (v := .bool _) rfl rfl) (by kernel_rfl) rfl ?_
            refine l_valG (r_move (v := .bool _) rfl rfl) (by kernel_rfl) rfl ?_
            refine l_valG (r_eqlBool (c := true) Tryz.underlying4 rfl rfl rfl (by simp)) (by kernel_rfl) rfl ?_
            refine kB ?_
            refine aB ?_
            refine l_loadAG hW 2 tyA31 (by kernel_rfl) rfl rfl rfl rfl (by first | rfl | exact kc_len _ | exact kcf_len _ | exact boC_len _ _ | (simp; done)) ?_
            refine l_loadAG hW 0 tyA31 (by kernel_rfl) rfl rfl rfl rfl (by first | rfl | exact kc_len _ | exact kcf_len _ | exact boC_len _ _ | (simp; done)) ?_
            refine l_callRG hW (g_SameBox (askX b l f) s1 s2 hfl) en26 ⟨(nA.rep.at (show Cl _ (((([_, _, _, _, _] ++ BM) ++ BA) ++ Bs3) ++ BB) _ from hW) ((((List.sublist_append_right _ BA).trans (List.sublist_append_left _ Bs3)).trans (List.sublist_append_left _ BB)))), (nB.rep.at (show Cl _ (((([_, _, _, _, _] ++ BM) ++ BA) ++ Bs3) ++ BB) _ from hW) ((List.sublist_append_right _ BB)))⟩ (by kernel_rfl) rfl rfl rfl ?_
            intro W hW
            refine kB ?_
            refine bB ?_
            refine l_end (n_then (c_ret ?_))
            refine ret_tmp (v := .bool true) rfl ?_ ⟨rfl, hW.below⟩
            rfl
           ·intro hc10
            replace hc10 := of_decide_eq_false hc10
            rw [if_neg (show ¬ ((p.toNat : Nat) : Int) < f by omega)] at hA hB hC
            refine l_end (n_then ?_)
            refine c_false rfl ?_
            refine c_skip (n_then (c_seq (c_reg ?_)))
            refine dA hW 3 tyA31 ?_
            refine aS ?_
            refine aI ?_
            refine l_callX hW (g_Ask b t a3 (l.length + 1) c3 (putL l p.toNat (v, y)) (f) hl (by rw [putL_len (by omega)]; omega)) en34 ⟨hP.1.past hW.below, (hO3.repB.at (show Cl _ ((([_, _, _, _] ++ BM) ++ BA) ++ Bs3) _ from hW) ((List.sublist_append_right _ Bs3)))⟩ rfl rfl rfl rfl ?_
            rintro _ BB W ⟨s2, rfl, nB⟩ hW
            rw [show askX b (putL l p.toNat (v, y)) (f) = askX b l f from by rw [(askX_yes hA).1, (askX_yes he).1]; exact hB] at nB ⊢
            rw [show askP b (putL l p.toNat (v, y)) (f) = askP b l f from by rw [(askX_yes hA).2, (askX_yes he).2]; exact hC, hA]
            refine l_val (r_move (v := .tuple _) rfl rfl) rfl rfl ?_
            refine l_val (r_extract (v := .agg _) rfl rfl rfl) rfl rfl ?_
            refine l_val (r_extract (v := .bool _) rfl rfl rfl) rfl rfl ?_
            refine l_val (r_extract (v := .int _ _) rfl rfl rfl) rfl rfl ?_
            refine l_alloc hW tyZ31 rfl rfl rfl ?_
            intro g7 W hW
            refine sA hW 0 tyA31 ?_
            intro W hW
            refine bB ?_
            refine bI ?_
            refine l_end (n_then (c_seq (c_reg ?_)))
            refine aB ?_
            refine aB ?_
            refine gI ?_
            refine l_valG (r_eql (b := true) rfl rfl rfl (by decide)) (by kernel_rfl) rfl ?_
            refine kB ?_
            refine aB ?_
            refine l_valG (r_move (v := .bool _) rfl rfl) (by kernel_rfl) rfl ?_
            refine l_valG (r_move (v := .bool _) rfl rfl) (by kernel_rfl) rfl ?_
            refine l_valG (r_eqlBool (c := true) Tryz.underlying4 rfl rfl rfl (by simp)) (by kernel_rfl) rfl ?_
            refine kB ?_
            refine aB ?_
            refine l_loadAG hW 2 tyA31 (by kernel_rfl) rfl rfl rfl rfl (by first | rfl | exact kc_len _ | exact kcf_len _ | exact boC_len _ _ | (simp; done)) ?_
            refine l_loadAG hW 0 tyA31 (by kernel_rfl) rfl rfl rfl rfl (by first | rfl | exact kc_len _ | exact kcf_len _ | exact boC_len _ _ | (simp; done)) ?_
            refine l_callRG hW (g_SameBox (askX b l f) s1 s2 hfl) en26 ⟨(nA.rep.at (show Cl _ (((([_, _, _, _, _] ++ BM) ++ BA) ++ Bs3) ++ BB) _ from hW) ((((List.sublist_append_right _ BA).trans (List.sublist_append_left _ Bs3)).trans (List.sublist_append_left _ BB)))), (nB.rep.at (show Cl _ (((([_, _, _, _, _] ++ BM) ++ BA) ++ Bs3) ++ BB) _ from hW) ((List.sublist_append_right _ BB)))⟩ (by kernel_rfl) rfl rfl rfl ?_
            intro W hW
            refine kB ?_
            refine bB ?_
            refine l_end (n_then (c_ret ?_))
            refine ret_tmp (v := .bool true) rfl ?_ ⟨rfl, hW.below⟩
            rfl
          ·skip
           refine l_buildSliceF hW (bsl33_1_0 _ _) rfl rfl rfl rfl ?_
           intro gb W hW
           refine l_end (n_A ?_)
           refine aw1 4 (by kernel_rfl) rfl ?_
           refine l_appendRB tyE33 (L := (([_, _, _, _] ++ BM) ++ BA)) (OwnSl.full (e := 64) (sz := 2) (n := 0) (vs := []) rfl (Nat.zero_le _)) (pickE2 (show Cl _ (_ :: _ :: (([_, _, _] ++ BM) ++ BA)) _ from hW)) ((hP.2.past hW.below).to (k := p.toNat) hpr) (Nat.zero_add _) rfl rfl rfl rfl rfl (by show p.toNat ≤ maxLen; unfold maxLen; omega) (by show p.toNat * _ ≤ _; omega) ?_
           intro a1 c1 Bs1 W hO1 hW
           refine l_end (n_A ?_)
           refine aw1 7 (by kernel_rfl) rfl ?_
           refine l_appendB tyE33 (L := (([_, _, _, _] ++ BM) ++ BA)) hO1 hW 0 (N := p.toNat + 1) rfl rfl rfl rfl rfl rfl rfl rfl (by simp [Value.oneCell']) (by unfold maxLen; omega) (by omega) ?_
           intro a2 c2 Bs2 W hO2 hW
           refine l_end (n_A ?_)
           refine aw1 11 (by kernel_rfl) rfl ?_
           refine l_appendRB tyE33 (L := (([_, _, _, _] ++ BM) ++ BA)) hO2 hW ((hP.2.past hW.below).from (k := p.toNat) hpr) (N := l.length + 1) (by show p.toNat + 1 + (rn - p.toNat) = _; have : p.toNat ≤ rn := hpr; omega) rfl rfl rfl rfl rfl (by unfold maxLen; omega) (by omega) ?_
           intro a3 c3 Bs3 W hO3 hW
           replace hO3 := hO3.castx rfl (xs' := sl2 (putL l p.toNat (v, y))) (sl2_putL l p.toNat v y)
           refine l_end (n_A ?_)
           refine aw1 12 (by kernel_rfl) rfl ?_
           refine bS ?_
           refine l_end (n_A ?_)
           refine aw0 (by kernel_rfl) ?_
           refine n_then (c_seq (c_seq (c_reg ?_)))
           refine aI ?_
           refine aI ?_
           refine l_val (r_lss rfl rfl rfl rfl) rfl rfl ?_
           refine l_split ?_ ?_
           ·intro hc11
            replace hc11 := of_decide_eq_true hc11
            rw [if_pos (show ((p.toNat : Nat) : Int) < f by omega)] at hA hB hC
            refine l_end (n_then ?_)
            refine c_true rfl ?_
            refine c_reg ?_
            refine aI ?_
            refine l_val (r_addZ rfl rfl rfl (by omega)) rfl rfl ?_
            refine bI ?_
            refine l_end (n_then (c_seq (c_reg ?_)))
            refine dA hW 3 tyA31 ?_
            refine aS ?_
            refine aI ?_
            refine l_callX hW (g_Ask b t a3 (l.length + 1) c3 (putL l p.toNat (v, y)) (f + 1) hl (by rw [putL_len (by omega)]; omega)) en34 ⟨hP.1.past hW.below, (hO3.repB.at (show Cl _ ((([_, _, _, _] ++ BM) ++ BA) ++ Bs3) _ from hW) ((List.sublist_append_right _ Bs3)))⟩ rfl rfl rfl rfl ?_
            rintro _ BB W ⟨s2, rfl, nB⟩ hW
            rw [show askX b (putL l p.toNat (v, y)) (f + 1) = askX b l f from by rw [(askX_yes hA).1, (askX_yes he).1]; exact hB] at nB ⊢
            rw [show askP b (putL l p.toNat (v, y)) (f + 1) = askP b l f from by rw [(askX_yes hA).2, (askX_yes he).2]; exact hC, hA]
            refine l_val (r_move (v := .tuple _) rfl rfl) rfl rfl ?_
            refine l_val (r_extract (v := .agg _) rfl rfl rfl) rfl rfl ?_
            refine l_val (r_extract (v := .bool _) rfl rfl rfl) rfl rfl ?_
            refine l_val (r_extract (v := .int _ _) rfl rfl rfl) rfl rfl ?_
            refine l_alloc hW tyZ31 rfl rfl rfl ?_
            intro g8 W hW
            refine sA hW 0 tyA31 ?_
            intro W hW
            refine bB ?_
            refine bI ?_
            refine l_end (n_then (c_seq (c_reg ?_)))
            refine aB ?_
            refine aB ?_
            refine gI ?_
            refine l_valG (r_eql (b := true) rfl rfl rfl (by decide)) (by kernel_rfl) rfl ?_
            refine kB ?_
            refine aB ?_
            refine l_valG (r_move (v := .bool _) rfl rfl) (by kernel_rfl) rfl ?_
            refine l_valG (r_move (v := .bool _) rfl rfl) (by kernel_rfl) rfl ?_
            refine l_valG (r_eqlBool (c := true) Tryz.underlying4 rfl rfl rfl (by simp)) (by kernel_rfl) rfl ?_
            refine kB ?_
            refine aB ?_
            refine l_loadAG hW 2 tyA31 (by kernel_rfl) rfl rfl rfl rfl (by first | rfl | exact kc_len _ | exact kcf_len _ | exact boC_len _ _ | (simp; done)) ?_
            refine l_loadAG hW 0 tyA31 (by kernel_rfl) rfl rfl rfl rfl (by first | rfl | exact kc_len _ | exact kcf_len _ | exact boC_len _ _ | (simp; done)) ?_
            refine l_callRG hW (g_SameBox (askX b l f) s1 s2 hfl) en26 ⟨(nA.rep.at (show Cl _ (((([_, _, _, _, _] ++ BM) ++ BA) ++ Bs3) ++ BB) _ from hW) ((((List.sublist_append_right _ BA).trans (List.sublist_append_left _ Bs3)).trans (List.sublist_append_left _ BB)))), (nB.rep.at (show Cl _ (((([_, _, _, _, _] ++ BM) ++ BA) ++ Bs3) ++ BB) _ from hW) ((List.sublist_append_right _ BB)))⟩ (by kernel_rfl) rfl rfl rfl ?_
            intro W hW
            refine kB ?_
            refine bB ?_
            refine l_end (n_then (c_ret ?_))
            refine ret_tmp (v := .bool true) rfl ?_ ⟨rfl, hW.below⟩
            rfl
           ·intro hc11
            replace hc11 := of_decide_eq_false hc11
            rw [if_neg (show ¬ ((p.toNat : Nat) : Int) < f by omega)] at hA hB hC
            refine l_end (n_then ?_)
            refine c_false rfl ?_
            refine c_skip (n_then (c_seq (c_reg ?_)))
            refine dA hW 3 tyA31 ?_
            refine aS ?_
            refine aI ?_
            refine l_callX hW (g_Ask b t a3 (l.length + 1) c3 (putL l p.toNat (v, y)) (f) hl (by rw [putL_len (by omega)]; omega)) en34 ⟨hP.1.past hW.below, (hO3.repB.at (show Cl _ ((([_, _, _, _] ++ BM) ++ BA) ++ Bs3) _ from hW) ((List.sublist_append_right _ Bs3)))⟩ rfl rfl rfl rfl ?_
            rintro _ BB W ⟨s2, rfl, nB⟩ hW
            rw [show askX b (putL l p.toNat (v, y)) (f) = askX b l f from by rw [(askX_yes hA).1, (askX_yes he).1]; exact hB] at nB ⊢
            rw [show askP b (putL l p.toNat (v, y)) (f) = askP b l f from by rw [(askX_yes hA).2, (askX_yes he).2]; exact hC, hA]
            refine l_val (r_move (v := .tuple _) rfl rfl) rfl rfl ?_
            refine l_val (r_extract (v := .agg _) rfl rfl rfl) rfl rfl ?_
            refine l_val (r_extract (v := .bool _) rfl rfl rfl) rfl rfl ?_
            refine l_val (r_extract (v := .int _ _) rfl rfl rfl) rfl rfl ?_
            refine l_alloc hW tyZ31 rfl rfl rfl ?_
            intro g9 W hW
            refine sA hW 0 tyA31 ?_
            intro W hW
            refine bB ?_
            refine bI ?_
            refine l_end (n_then (c_seq (c_reg ?_)))
            refine aB ?_
            refine aB ?_
            refine gI ?_
            refine l_valG (r_eql (b := true) rfl rfl rfl (by decide)) (by kernel_rfl) rfl ?_
            refine kB ?_
            refine aB ?_
            refine l_valG (r_move (v := .bool _) rfl rfl) (by kernel_rfl) rfl ?_
            refine l_valG (r_move (v := .bool _) rfl rfl) (by kernel_rfl) rfl ?_
            refine l_valG (r_eqlBool (c := true) Tryz.underlying4 rfl rfl rfl (by simp)) (by kernel_rfl) rfl ?_
            refine kB ?_
            refine aB ?_
            refine l_loadAG hW 2 tyA31 (by kernel_rfl) rfl rfl rfl rfl (by first | rfl | exact kc_len _ | exact kcf_len _ | exact boC_len _ _ | (simp; done)) ?_
            refine l_loadAG hW 0 tyA31 (by kernel_rfl) rfl rfl rfl rfl (by first | rfl | exact kc_len _ | exact kcf_len _ | exact boC_len _ _ | (simp; done)) ?_
            refine l_callRG hW (g_SameBox (askX b l f) s1 s2 hfl) en26 ⟨(nA.rep.at (show Cl _ (((([_, _, _, _, _] ++ BM) ++ BA) ++ Bs3) ++ BB) _ from hW) ((((List.sublist_append_right _ BA).trans (List.sublist_append_left _ Bs3)).trans (List.sublist_append_left _ BB)))), (nB.rep.at (show Cl _ (((([_, _, _, _, _] ++ BM) ++ BA) ++ Bs3) ++ BB) _ from hW) ((List.sublist_append_right _ BB)))⟩ (by kernel_rfl) rfl rfl rfl ?_
            intro W hW
            refine kB ?_
            refine bB ?_
            refine l_end (n_then (c_ret ?_))
            refine ret_tmp (v := .bool true) rfl ?_ ⟨rfl, hW.below⟩
            rfl
        ·skip
         refine dA hW 1 tyA64 ?_
         refine l_end (n_A ?_)
         refine awn [0, 6] (by kernel_rfl) (by simp) ⟨⟨_, rfl, ?_⟩, ⟨_, rfl, ?_⟩, trivial⟩
         ·skip
          refine l_buildSliceF hW bsl33_0_ rfl rfl rfl rfl ?_
          intro ge W hW
          refine l_end (n_A ?_)
          refine awn [4, 6] (by kernel_rfl) (by simp) ⟨⟨_, rfl, ?_⟩, ⟨_, rfl, ?_⟩, trivial⟩
          ·skip
           refine l_appendRB tyE33 (L := (([_, _, _] ++ BM) ++ BA)) (OwnSl.full (e := 64) (sz := 2) (n := 0) (vs := []) rfl (Nat.zero_le _)) (pickE1 (show Cl _ (_ :: (([_, _, _] ++ BM) ++ BA)) _ from hW)) ((hP.2.past hW.below).to (k := p.toNat) hpr) (Nat.zero_add _) rfl rfl rfl rfl rfl (by show p.toNat ≤ maxLen; unfold maxLen; omega) (by show p.toNat * _ ≤ _; omega) ?_
           intro a1 c1 Bs1 W hO1 hW
           refine l_end (n_A ?_)
           refine aw1 6 (by kernel_rfl) rfl ?_
           refine l_buildSliceF hW (bsl33_1_0 _ _) rfl rfl rfl rfl ?_
           intro gb W hW
           refine l_end (n_A ?_)
           refine aw1 7 (by kernel_rfl) rfl ?_
           refine l_appendB tyE33 (L := (([_, _, _, _] ++ BM) ++ BA)) hO1 hW 0 (N := p.toNat + 1) rfl rfl rfl rfl rfl rfl rfl rfl (by simp [Value.oneCell']) (by unfold maxLen; omega) (by omega) ?_
           intro a2 c2 Bs2 W hO2 hW
           refine l_end (n_A ?_)
           refine aw1 11 (by kernel_rfl) rfl ?_
           refine l_appendRB tyE33 (L := (([_, _, _, _] ++ BM) ++ BA)) hO2 hW ((hP.2.past hW.below).from (k := p.toNat) hpr) (N := l.length + 1) (by show p.toNat + 1 + (rn - p.toNat) = _; have : p.toNat ≤ rn := hpr; omega) rfl rfl rfl rfl rfl (by unfold maxLen; omega) (by omega) ?_
           intro a3 c3 Bs3 W hO3 hW
           replace hO3 := hO3.castx rfl (xs' := sl2 (putL l p.toNat (v, y))) (sl2_putL l p.toNat v y)
           refine l_end (n_A ?_)
           refine aw1 12 (by kernel_rfl) rfl ?_
           refine bS ?_
           refine l_end (n_A ?_)
           refine aw0 (by kernel_rfl) ?_
           refine n_then (c_seq (c_seq (c_reg ?_)))
           refine aI ?_
           refine aI ?_
           refine l_val (r_lss rfl rfl rfl rfl) rfl rfl ?_
           refine l_split ?_ ?_
           ·intro hc12
            replace hc12 := of_decide_eq_true hc12
            rw [if_pos (show ((p.toNat : Nat) : Int) < f by omega)] at hA hB hC
            refine l_end (n_then ?_)
            refine c_true rfl ?_
            refine c_reg ?_
            refine aI ?_
            refine l_val (r_addZ rfl rfl rfl (by omega)) rfl rfl ?_
            refine bI ?_
            refine l_end (n_then (c_seq (c_reg ?_)))
            refine dA hW 3 tyA31 ?_
            refine aS ?_
            refine aI ?_
            refine l_callX hW (g_Ask b t a3 (l.length + 1) c3 (putL l p.toNat (v, y)) (f + 1) hl (by rw [putL_len (by omega)]; omega)) en34 ⟨hP.1.past hW.below, (hO3.repB.at (show Cl _ ((([_, _, _, _] ++ BM) ++ BA) ++ Bs3) _ from hW) ((List.sublist_append_right _ Bs3)))⟩ rfl rfl rfl rfl ?_
            rintro _ BB W ⟨s2, rfl, nB⟩ hW
            rw [show askX b (putL l p.toNat (v, y)) (f + 1) = askX b l f from by rw [(askX_yes hA).1, (askX_yes he).1]; exact hB] at nB ⊢
            rw [show askP b (putL l p.toNat (v, y)) (f + 1) = askP b l f from by rw [(askX_yes hA).2, (askX_yes he).2]; exact hC, hA]
            refine l_val (r_move (v := .tuple _) rfl rfl) rfl rfl ?_
            refine l_val (r_extract (v := .agg _) rfl rfl rfl) rfl rfl ?_
            refine l_val (r_extract (v := .bool _) rfl rfl rfl) rfl rfl ?_
            refine l_val (r_extract (v := .int _ _) rfl rfl rfl) rfl rfl ?_
            refine l_alloc hW tyZ31 rfl rfl rfl ?_
            intro g10 W hW
            refine sA hW 0 tyA31 ?_
            intro W hW
            refine bB ?_
            refine bI ?_
            refine l_end (n_then (c_seq (c_reg ?_)))
            refine aB ?_
            refine aB ?_
            refine gI ?_
            refine l_valG (r_eql (b := true) rfl rfl rfl (by decide)) (by kernel_rfl) rfl ?_
            refine kB ?_
            refine aB ?_
            refine l_valG (r_move (v := .bool _) rfl rfl) (by kernel_rfl) rfl ?_
            refine l_valG (r_move (v := .bool _) rfl rfl) (by kernel_rfl) rfl ?_
            refine l_valG (r_eqlBool (c := true) Tryz.underlying4 rfl rfl rfl (by simp)) (by kernel_rfl) rfl ?_
            refine kB ?_
            refine aB ?_
            refine l_loadAG hW 2 tyA31 (by kernel_rfl) rfl rfl rfl rfl (by first | rfl | exact kc_len _ | exact kcf_len _ | exact boC_len _ _ | (simp; done)) ?_
            refine l_loadAG hW 0 tyA31 (by kernel_rfl) rfl rfl rfl rfl (by first | rfl | exact kc_len _ | exact kcf_len _ | exact boC_len _ _ | (simp; done)) ?_
            refine l_callRG hW (g_SameBox (askX b l f) s1 s2 hfl) en26 ⟨(nA.rep.at (show Cl _ (((([_, _, _, _, _] ++ BM) ++ BA) ++ Bs3) ++ BB) _ from hW) ((((List.sublist_append_right _ BA).trans (List.sublist_append_left _ Bs3)).trans (List.sublist_append_left _ BB)))), (nB.rep.at (show Cl _ (((([_, _, _, _, _] ++ BM) ++ BA) ++ Bs3) ++ BB) _ from hW) ((List.sublist_append_right _ BB)))⟩ (by kernel_rfl) rfl rfl rfl ?_
            intro W hW
            refine kB ?_
            refine bB ?_
            refine l_end (n_then (c_ret ?_))
            refine ret_tmp (v := .bool true) rfl ?_ ⟨rfl, hW.below⟩
            rfl
           ·intro hc12
            replace hc12 := of_decide_eq_false hc12
            rw [if_neg (show ¬ ((p.toNat : Nat) : Int) < f by omega)] at hA hB hC
            refine l_end (n_then ?_)
            refine c_false rfl ?_
            refine c_skip (n_then (c_seq (c_reg ?_)))
            refine dA hW 3 tyA31 ?_
            refine aS ?_
            refine aI ?_
            refine l_callX hW (g_Ask b t a3 (l.length + 1) c3 (putL l p.toNat (v, y)) (f) hl (by rw [putL_len (by omega)]; omega)) en34 ⟨hP.1.past hW.below, (hO3.repB.at (show Cl _ ((([_, _, _, _] ++ BM) ++ BA) ++ Bs3) _ from hW) ((List.sublist_append_right _ Bs3)))⟩ rfl rfl rfl rfl ?_
            rintro _ BB W ⟨s2, rfl, nB⟩ hW
            rw [show askX b (putL l p.toNat (v, y)) (f) = askX b l f from by rw [(askX_yes hA).1, (askX_yes he).1]; exact hB] at nB ⊢
            rw [show askP b (putL l p.toNat (v, y)) (f) = askP b l f from by rw [(askX_yes hA).2, (askX_yes he).2]; exact hC, hA]
            refine l_val (r_move (v := .tuple _) rfl rfl) rfl rfl ?_
            refine l_val (r_extract (v := .agg _) rfl rfl rfl) rfl rfl ?_
            refine l_val (r_extract (v := .bool _) rfl rfl rfl) rfl rfl ?_
            refine l_val (r_extract (v := .int _ _) rfl rfl rfl) rfl rfl ?_
            refine l_alloc hW tyZ31 rfl rfl rfl ?_
            intro g11 W hW
            refine sA hW 0 tyA31 ?_
            intro W hW
            refine bB ?_
            refine bI ?_
            refine l_end (n_then (c_seq (c_reg ?_)))
            refine aB ?_
            refine aB ?_
            refine gI ?_
            refine l_valG (r_eql (b := true) rfl rfl rfl (by decide)) (by kernel_rfl) rfl ?_
            refine kB ?_
            refine aB ?_
            refine l_valG (r_move (v := .bool _) rfl rfl) (by kernel_rfl) rfl ?_
            refine l_valG (r_move (v := .bool _) rfl rfl) (by kernel_rfl) rfl ?_
            refine l_valG (r_eqlBool (c := true) Tryz.underlying4 rfl rfl rfl (by simp)) (by kernel_rfl) rfl ?_
            refine kB ?_
            refine aB ?_
            refine l_loadAG hW 2 tyA31 (by kernel_rfl) rfl rfl rfl rfl (by first | rfl | exact kc_len _ | exact kcf_len _ | exact boC_len _ _ | (simp; done)) ?_
            refine l_loadAG hW 0 tyA31 (by kernel_rfl) rfl rfl rfl rfl (by first | rfl | exact kc_len _ | exact kcf_len _ | exact boC_len _ _ | (simp; done)) ?_
            refine l_callRG hW (g_SameBox (askX b l f) s1 s2 hfl) en26 ⟨(nA.rep.at (show Cl _ (((([_, _, _, _, _] ++ BM) ++ BA) ++ Bs3) ++ BB) _ from hW) ((((List.sublist_append_right _ BA).trans (List.sublist_append_left _ Bs3)).trans (List.sublist_append_left _ BB)))), (nB.rep.at (show Cl _ (((([_, _, _, _, _] ++ BM) ++ BA) ++ Bs3) ++ BB) _ from hW) ((List.sublist_append_right _ BB)))⟩ (by kernel_rfl) rfl rfl rfl ?_
            intro W hW
            refine kB ?_
            refine bB ?_
            refine l_end (n_then (c_ret ?_))
            refine ret_tmp (v := .bool true) rfl ?_ ⟨rfl, hW.below⟩
            rfl
          ·skip
           refine l_buildSliceF hW (bsl33_1_0 _ _) rfl rfl rfl rfl ?_
           intro gb W hW
           refine l_end (n_A ?_)
           refine aw1 4 (by kernel_rfl) rfl ?_
           refine l_appendRB tyE33 (L := (([_, _, _, _] ++ BM) ++ BA)) (OwnSl.full (e := 64) (sz := 2) (n := 0) (vs := []) rfl (Nat.zero_le _)) (pickE2 (show Cl _ (_ :: _ :: (([_, _, _] ++ BM) ++ BA)) _ from hW)) ((hP.2.past hW.below).to (k := p.toNat) hpr) (Nat.zero_add _) rfl rfl rfl rfl rfl (by show p.toNat ≤ maxLen; unfold maxLen; omega) (by show p.toNat * _ ≤ _; omega) ?_
           intro a1 c1 Bs1 W hO1 hW
           refine l_end (n_A ?_)
           refine aw1 7 (by kernel_rfl) rfl ?_
           refine l_appendB tyE33 (L := (([_, _, _, _] ++ BM) ++ BA)) hO1 hW 0 (N := p.toNat + 1) rfl rfl rfl rfl rfl rfl rfl rfl (by simp [Value.oneCell']) (by unfold maxLen; omega) (by omega) ?_
           intro a2 c2 Bs2 W hO2 hW
           refine l_end (n_A ?_)
           refine aw1 11 (by kernel_rfl) rfl ?_
           refine l_appendRB tyE33 (L := (([_, _, _, _] ++ BM) ++ BA)) hO2 hW ((hP.2.past hW.below).from (k := p.toNat) hpr) (N := l.length + 1) (by show p.toNat + 1 + (rn - p.toNat) = _; have : p.toNat ≤ rn := hpr; omega) rfl rfl rfl rfl rfl (by unfold maxLen; omega) (by omega) ?_
           intro a3 c3 Bs3 W hO3 hW
           replace hO3 := hO3.castx rfl (xs' := sl2 (putL l p.toNat (v, y))) (sl2_putL l p.toNat v y)
           refine l_end (n_A ?_)
           refine aw1 12 (by kernel_rfl) rfl ?_
           refine bS ?_
           refine l_end (n_A ?_)
           refine aw0 (by kernel_rfl) ?_
           refine n_then (c_seq (c_seq (c_reg ?_)))
           refine aI ?_
           refine aI ?_
           refine l_val (r_lss rfl rfl rfl rfl) rfl rfl ?_
           refine l_split ?_ ?_
           ·intro hc13
            replace hc13 := of_decide_eq_true hc13
            rw [if_pos (show ((p.toNat : Nat) : Int) < f by omega)] at hA hB hC
            refine l_end (n_then ?_)
            refine c_true rfl ?_
            refine c_reg ?_
            refine aI ?_
            refine l_val (r_addZ rfl rfl rfl (by omega)) rfl rfl ?_
            refine bI ?_
            refine l_end (n_then (c_seq (c_reg ?_)))
            refine dA hW 3 tyA31 ?_
            refine aS ?_
            refine aI ?_
            refine l_callX hW (g_Ask b t a3 (l.length + 1) c3 (putL l p.toNat (v, y)) (f + 1) hl (by rw [putL_len (by omega)]; omega)) en34 ⟨hP.1.past hW.below, (hO3.repB.at (show Cl _ ((([_, _, _, _] ++ BM) ++ BA) ++ Bs3) _ from hW) ((List.sublist_append_right _ Bs3)))⟩ rfl rfl rfl rfl ?_
            rintro _ BB W ⟨s2, rfl, nB⟩ hW
            rw [show askX b (putL l p.toNat (v, y)) (f + 1) = askX b l f from by rw [(askX_yes hA).1, (askX_yes he).1]; exact hB] at nB ⊢
            rw [show askP b (putL l p.toNat (v, y)) (f + 1) = askP b l f from by rw [(askX_yes hA).2, (askX_yes he).2]; exact hC, hA]
            refine l_val (r_move (v := .tuple _) rfl rfl) rfl rfl ?_
            refine l_val (r_extract (v := .agg _) rfl rfl rfl) rfl rfl ?_
            refine l_val (r_extract (v := .bool _) rfl rfl rfl) rfl rfl ?_
            refine l_val (r_extract (v := .int _ _) rfl rfl rfl) rfl rfl ?_
            refine l_alloc hW tyZ31 rfl rfl rfl ?_
            intro g12 W hW
            refine sA hW 0 tyA31 ?_
            intro W hW
            refine bB ?_
            refine bI ?_
            refine l_end (n_then (c_seq (c_reg ?_)))
            refine aB ?_
            refine aB ?_
            refine gI ?_
            refine l_valG (r_eql (b := true) rfl rfl rfl (by decide)) (by kernel_rfl) rfl ?_
            refine kB ?_
            refine aB ?_
            refine l_valG (r_move (v := .bool _) rfl rfl) (by kernel_rfl) rfl ?_
            refine l_valG (r_move (v := .bool _) rfl rfl) (by kernel_rfl) rfl ?_
            refine l_valG (r_eqlBool (c := true) Tryz.underlying4 rfl rfl rfl (by simp)) (by kernel_rfl) rfl ?_
            refine kB ?_
            refine aB ?_
            refine l_loadAG hW 2 tyA31 (by kernel_rfl) rfl rfl rfl rfl (by first | rfl | exact kc_len _ | exact kcf_len _ | exact boC_len _ _ | (simp; done)) ?_
            refine l_loadAG hW 0 tyA31 (by kernel_rfl) rfl rfl rfl rfl (by first | rfl | exact kc_len _ | exact kcf_len _ | exact boC_len _ _ | (simp; done)) ?_
            refine l_callRG hW (g_SameBox (askX b l f) s1 s2 hfl) en26 ⟨(nA.rep.at (show Cl _ (((([_, _, _, _, _] ++ BM) ++ BA) ++ Bs3) ++ BB) _ from hW) ((((List.sublist_append_right _ BA).trans (List.sublist_append_left _ Bs3)).trans (List.sublist_append_left _ BB)))), (nB.rep.at (show Cl _ (((([_, _, _, _, _] ++ BM) ++ BA) ++ Bs3) ++ BB) _ from hW) ((List.sublist_append_right _ BB)))⟩ (by kernel_rfl) rfl rfl rfl ?_
            intro W hW
            refine kB ?_
            refine bB ?_
            refine l_end (n_then (c_ret ?_))
            refine ret_tmp (v := .bool true) rfl ?_ ⟨rfl, hW.below⟩
            rfl
           ·intro hc13
            replace hc13 := of_decide_eq_false hc13
            rw [if_neg (show ¬ ((p.toNat : Nat) : Int) < f by omega)] at hA hB hC
            refine l_end (n_then ?_)
            refine c_false rfl ?_
            refine c_skip (n_then (c_seq (c_reg ?_)))
            refine dA hW 3 tyA31 ?_
            refine aS ?_
            refine aI ?_
            refine l_callX hW (g_Ask b t a3 (l.length + 1) c3 (putL l p.toNat (v, y)) (f) hl (by rw [putL_len (by omega)]; omega)) en34 ⟨hP.1.past hW.below, (hO3.repB.at (show Cl _ ((([_, _, _, _] ++ BM) ++ BA) ++ Bs3) _ from hW) ((List.sublist_append_right _ Bs3)))⟩ rfl rfl rfl rfl ?_
            rintro _ BB W ⟨s2, rfl, nB⟩ hW
            rw [show askX b (putL l p.toNat (v, y)) (f) = askX b l f from by rw [(askX_yes hA).1, (askX_yes he).1]; exact hB] at nB ⊢
            rw [show askP b (putL l p.toNat (v, y)) (f) = askP b l f from by rw [(askX_yes hA).2, (askX_yes he).2]; exact hC, hA]
            refine l_val (r_move (v := .tuple _) rfl rfl) rfl rfl ?_
            refine l_val (r_extract (v := .agg _) rfl rfl rfl) rfl rfl ?_
            refine l_val (r_extract (v := .bool _) rfl rfl rfl) rfl rfl ?_
            refine l_val (r_extract (v := .int _ _) rfl rfl rfl) rfl rfl ?_
            refine l_alloc hW tyZ31 rfl rfl rfl ?_
            intro g13 W hW
            refine sA hW 0 tyA31 ?_
            intro W hW
            refine bB ?_
            refine bI ?_
            refine l_end (n_then (c_seq (c_reg ?_)))
            refine aB ?_
            refine aB ?_
            refine gI ?_
            refine l_valG (r_eql (b := true) rfl rfl rfl (by decide)) (by kernel_rfl) rfl ?_
            refine kB ?_
            refine aB ?_
            refine l_valG (r_move (v := .bool _) rfl rfl) (by kernel_rfl) rfl ?_
            refine l_valG (r_move (v := .bool _) rfl rfl) (by kernel_rfl) rfl ?_
            refine l_valG (r_eqlBool (c := true) Tryz.underlying4 rfl rfl rfl (by simp)) (by kernel_rfl) rfl ?_
            refine kB ?_
            refine aB ?_
            refine l_loadAG hW 2 tyA31 (by kernel_rfl) rfl rfl rfl rfl (by first | rfl | exact kc_len _ | exact kcf_len _ | exact boC_len _ _ | (simp; done)) ?_
            refine l_loadAG hW 0 tyA31 (by kernel_rfl) rfl rfl rfl rfl (by first | rfl | exact kc_len _ | exact kcf_len _ | exact boC_len _ _ | (simp; done)) ?_
            refine l_callRG hW (g_SameBox (askX b l f) s1 s2 hfl) en26 ⟨(nA.rep.at (show Cl _ (((([_, _, _, _, _] ++ BM) ++ BA) ++ Bs3) ++ BB) _ from hW) ((((List.sublist_append_right _ BA).trans (List.sublist_append_left _ Bs3)).trans (List.sublist_append_left _ BB)))), (nB.rep.at (show Cl _ (((([_, _, _, _, _] ++ BM) ++ BA) ++ Bs3) ++ BB) _ from hW) ((List.sublist_append_right _ BB)))⟩ (by kernel_rfl) rfl rfl rfl ?_
            intro W hW
            refine kB ?_
            refine bB ?_
            refine l_end (n_then (c_ret ?_))
            refine ret_tmp (v := .bool true) rfl ?_ ⟨rfl, hW.below⟩
            rfl
         ·skip
          refine l_buildSliceF hW (bsl33_1_0 _ _) rfl rfl rfl rfl ?_
          intro gb W hW
          refine l_end (n_A ?_)
          refine aw1 0 (by kernel_rfl) rfl ?_
          refine l_buildSliceF hW bsl33_0_ rfl rfl rfl rfl ?_
          intro ge W hW
          refine l_end (n_A ?_)
          refine aw1 4 (by kernel_rfl) rfl ?_
          refine l_appendRB tyE33 (L := (([_, _, _, _] ++ BM) ++ BA)) (OwnSl.full (e := 64) (sz := 2) (n := 0) (vs := []) rfl (Nat.zero_le _)) (pickE1 (show Cl _ (_ :: (([_, _, _, _] ++ BM) ++ BA)) _ from hW)) ((hP.2.past hW.below).to (k := p.toNat) hpr) (Nat.zero_add _) rfl rfl rfl rfl rfl (by show p.toNat ≤ maxLen; unfold maxLen; omega) (by show p.toNat * _ ≤ _; omega) ?_
          intro a1 c1 Bs1 W hO1 hW
          refine l_end (n_A ?_)
          refine aw1 7 (by kernel_rfl) rfl ?_
          refine l_appendB tyE33 (L := (([_, _, _, _] ++ BM) ++ BA)) hO1 hW 0 (N := p.toNat + 1) rfl rfl rfl rfl rfl rfl rfl rfl (by simp [Value.oneCell']) (by unfold maxLen; omega) (by omega) ?_
          intro a2 c2 Bs2 W hO2 hW
          refine l_end (n_A ?_)
          refine aw1 11 (by kernel_rfl) rfl ?_
          refine l_appendRB tyE33 (L := (([_, _, _, _] ++ BM) ++ BA)) hO2 hW ((hP.2.past hW.below).from (k := p.toNat) hpr) (N := l.length + 1) (by show p.toNat + 1 + (rn - p.toNat) = _; have : p.toNat ≤ rn := hpr; omega) rfl rfl rfl rfl rfl (by unfold maxLen; omega) (by omega) ?_
          intro a3 c3 Bs3 W hO3 hW
          replace hO3 := hO3.castx rfl (xs' := sl2 (putL l p.toNat (v, y))) (sl2_putL l p.toNat v y)
          refine l_end (n_A ?_)
          refine aw1 12 (by kernel_rfl) rfl ?_
          refine bS ?_
          refine l_end (n_A ?_)
          refine aw0 (by kernel_rfl) ?_
          refine n_then (c_seq (c_seq (c_reg ?_)))
          refine aI ?_
          refine aI ?_
          refine l_val (r_lss rfl rfl rfl rfl) rfl rfl ?_
          refine l_split ?_ ?_
          ·intro hc14
           replace hc14 := of_decide_eq_true hc14
           rw [if_pos (show ((p.toNat : Nat) : Int) < f by omega)] at hA hB hC
           refine l_end (n_then ?_)
           refine c_true rfl ?_
           refine c_reg ?_
           refine aI ?_
           refine l_val (r_addZ rfl rfl rfl (by omega)) rfl rfl ?_
           refine bI ?_
           refine l_end (n_then (c_seq (c_reg ?_)))
           refine dA hW 3 tyA31 ?_
           refine aS ?_
           refine aI ?_
           refine l_callX hW (g_Ask b t a3 (l.length + 1) c3 (putL l p.toNat (v, y)) (f + 1) hl (by rw [putL_len (by omega)]; omega)) en34 ⟨hP.1.past hW.below, (hO3.repB.at (show Cl _ ((([_, _, _, _] ++ BM) ++ BA) ++ Bs3) _ from hW) ((List.sublist_append_right _ Bs3)))⟩ rfl rfl rfl rfl ?_
           rintro _ BB W ⟨s2, rfl, nB⟩ hW
           rw [show askX b (putL l p.toNat (v, y)) (f + 1) = askX b l f from by rw [(askX_yes hA).1, (askX_yes he).1]; exact hB] at nB ⊢
           rw [show askP b (putL l p.toNat (v, y)) (f + 1) = askP b l f from by rw [(askX_yes hA).2, (askX_yes he).2]; exact hC, hA]
           refine l_val (r_move (v := .tuple _) rfl rfl) rfl rfl ?_
           refine l_val (r_extract (v := .agg _) rfl rfl rfl) rfl rfl ?_
           refine l_val (r_extract (v := .bool _) rfl rfl rfl) rfl rfl ?_
           refine l_val (r_extract (v := .int _ _) rfl rfl rfl) rfl rfl ?_
           refine l_alloc hW tyZ31 rfl rfl rfl ?_
           intro g14 W hW
           refine sA hW 0 tyA31 ?_
           intro W hW
           refine bB ?_
           refine bI ?_
           refine l_end (n_then (c_seq (c_reg ?_)))
           refine aB ?_
           refine aB ?_
           refine gI ?_
           refine l_valG (r_eql (b := true) rfl rfl rfl (by decide)) (by kernel_rfl) rfl ?_
           refine kB ?_
           refine aB ?_
           refine l_valG (r_move (v := .bool _) rfl rfl) (by kernel_rfl) rfl ?_
           refine l_valG (r_move (v := .bool _) rfl rfl) (by kernel_rfl) rfl ?_
           refine l_valG (r_eqlBool (c := true) Tryz.underlying4 rfl rfl rfl (by simp)) (by kernel_rfl) rfl ?_
           refine kB ?_
           refine aB ?_
           refine l_loadAG hW 2 tyA31 (by kernel_rfl) rfl rfl rfl rfl (by first | rfl | exact kc_len _ | exact kcf_len _ | exact boC_len _ _ | (simp; done)) ?_
           refine l_loadAG hW 0 tyA31 (by kernel_rfl) rfl rfl rfl rfl (by first | rfl | exact kc_len _ | exact kcf_len _ | exact boC_len _ _ | (simp; done)) ?_
           refine l_callRG hW (g_SameBox (askX b l f) s1 s2 hfl) en26 ⟨(nA.rep.at (show Cl _ (((([_, _, _, _, _] ++ BM) ++ BA) ++ Bs3) ++ BB) _ from hW) ((((List.sublist_append_right _ BA).trans (List.sublist_append_left _ Bs3)).trans (List.sublist_append_left _ BB)))), (nB.rep.at (show Cl _ (((([_, _, _, _, _] ++ BM) ++ BA) ++ Bs3) ++ BB) _ from hW) ((List.sublist_append_right _ BB)))⟩ (by kernel_rfl) rfl rfl rfl ?_
           intro W hW
           refine kB ?_
           refine bB ?_
           refine l_end (n_then (c_ret ?_))
           refine ret_tmp (v := .bool true) rfl ?_ ⟨rfl, hW.below⟩
           rfl
          ·intro hc14
           replace hc14 := of_decide_eq_false hc14
           rw [if_neg (show ¬ ((p.toNat : Nat) : Int) < f by omega)] at hA hB hC
           refine l_end (n_then ?_)
           refine c_false rfl ?_
           refine c_skip (n_then (c_seq (c_reg ?_)))
           refine dA hW 3 tyA31 ?_
           refine aS ?_
           refine aI ?_
           refine l_callX hW (g_Ask b t a3 (l.length + 1) c3 (putL l p.toNat (v, y)) (f) hl (by rw [putL_len (by omega)]; omega)) en34 ⟨hP.1.past hW.below, (hO3.repB.at (show Cl _ ((([_, _, _, _] ++ BM) ++ BA) ++ Bs3) _ from hW) ((List.sublist_append_right _ Bs3)))⟩ rfl rfl rfl rfl ?_
           rintro _ BB W ⟨s2, rfl, nB⟩ hW
           rw [show askX b (putL l p.toNat (v, y)) (f) = askX b l f from by rw [(askX_yes hA).1, (askX_yes he).1]; exact hB] at nB ⊢
           rw [show askP b (putL l p.toNat (v, y)) (f) = askP b l f from by rw [(askX_yes hA).2, (askX_yes he).2]; exact hC, hA]
           refine l_val (r_move (v := .tuple _) rfl rfl) rfl rfl ?_
           refine l_val (r_extract (v := .agg _) rfl rfl rfl) rfl rfl ?_
           refine l_val (r_extract (v := .bool _) rfl rfl rfl) rfl rfl ?_
           refine l_val (r_extract (v := .int _ _) rfl rfl rfl) rfl rfl ?_
           refine l_alloc hW tyZ31 rfl rfl rfl ?_
           intro g15 W hW
           refine sA hW 0 tyA31 ?_
           intro W hW
           refine bB ?_
           refine bI ?_
           refine l_end (n_then (c_seq (c_reg ?_)))
           refine aB ?_
           refine aB ?_
           refine gI ?_
           refine l_valG (r_eql (b := true) rfl rfl rfl (by decide)) (by kernel_rfl) rfl ?_
           refine kB ?_
           refine aB ?_
           refine l_valG (r_move (v := .bool _) rfl rfl) (by kernel_rfl) rfl ?_
           refine l_valG (r_move (v := .bool _) rfl rfl) (by kernel_rfl) rfl ?_
           refine l_valG (r_eqlBool (c := true) Tryz.underlying4 rfl rfl rfl (by simp)) (by kernel_rfl) rfl ?_
           refine kB ?_
           refine aB ?_
           refine l_loadAG hW 2 tyA31 (by kernel_rfl) rfl rfl rfl rfl (by first | rfl | exact kc_len _ | exact kcf_len _ | exact boC_len _ _ | (simp; done)) ?_
           refine l_loadAG hW 0 tyA31 (by kernel_rfl) rfl rfl rfl rfl (by first | rfl | exact kc_len _ | exact kcf_len _ | exact boC_len _ _ | (simp; done)) ?_
           refine l_callRG hW (g_SameBox (askX b l f) s1 s2 hfl) en26 ⟨(nA.rep.at (show Cl _ (((([_, _, _, _, _] ++ BM) ++ BA) ++ Bs3) ++ BB) _ from hW) ((((List.sublist_append_right _ BA).trans (List.sublist_append_left _ Bs3)).trans (List.sublist_append_left _ BB)))), (nB.rep.at (show Cl _ (((([_, _, _, _, _] ++ BM) ++ BA) ++ Bs3) ++ BB) _ from hW) ((List.sublist_append_right _ BB)))⟩ (by kernel_rfl) rfl rfl rfl ?_
           intro W hW
           refine kB ?_
           refine bB ?_
           refine l_end (n_then (c_ret ?_))
           refine ret_tmp (v := .bool true) rfl ?_ ⟨rfl, hW.below⟩
           rfl

end Go.Proofs.YtoegpalacppllaaGreat

/- For every box of at most 100 receivers, every list of at most 63 subsets, every number of fakes, and every subset that has no member in the coalition, put in at any place, as a fake or not: the box after the query is the same, and it plays just if it did; no conditions. -/
namespace Go.Proofs.YtoegpalacppllaaGreat
open Go.RowKit Go.ChangeShapes Go.WideShapes Pl Tr Hn

theorem traceBlind_calls (H : Type) (enc : TypeId × Value → H) (W : World) (base : Nat) (args : Array Value) (ds : List (DataW H)) (ps : List MemPlace) (h : Opened enc Tryz.prog W Tryz.f10 base args ds ps) :
    Calls Tryz.prog 10 args W fun e w' => e = .returned (.bool true) ∧ Below W.heap.size W w' := by
  have r0 := h.args (ts := [31, 33, 3, 64, 3]) (by kernel_rfl)
  generalize hl : args.toList = l0 at r0
  obtain ⟨_, l1, rfl, a0, r1⟩ := r0.cons
  obtain ⟨b, b_s, rfl, b_rd⟩ := a0.box tyBo31
  obtain ⟨_, l2, rfl, a1, r2⟩ := r1.cons
  obtain ⟨l_a, l_n, l_c, l, rfl, l_rd⟩ := a1.subsets Tryz.underlying33 tyQ64
  obtain ⟨_, l3, rfl, a2, r3⟩ := r2.cons
  obtain ⟨f, rfl, f_lo, f_hi⟩ := a2.int Tryz.underlying3
  obtain ⟨_, l4, rfl, a3, r4⟩ := r3.cons
  obtain ⟨x_cs, rfl, x_tc⟩ := a3.agg Tryz.underlying64
  obtain ⟨x_v, x_y, rfl⟩ := x_tc.subset tyQ64
  obtain ⟨_, l5, rfl, a4, r5⟩ := r4.cons
  obtain ⟨p, rfl, p_lo, p_hi⟩ := a4.int Tryz.underlying3
  obtain rfl := r5.nil
  rw [arr_of hl]
  exact g_TraceBlind b b_s l_a l_n l_c l f x_v x_y p W ⟨b_rd, l_rd⟩
set_option maxRecDepth 100000 in
theorem traceBlind_closed : joinedFacts Tryz.pinned.checked.prog 10 Tryz.f10 Rows.traceBlindSpec Rows.traceBlindRow = true := by kernel_rfl
set_option maxRecDepth 100000 in
theorem traceBlind_holds : Rows.TraceBlindSaid :=
  OpenClaim.holds_of_wide 10 Tryz.f10 rfl rfl rfl rfl rfl rfl rfl ⟨rfl, rfl, rfl, rfl, rfl⟩ rfl rfl rfl rfl rfl (by kernel_rfl) Tryz.func10 traceBlind_closed
    (of_decide_eq_true (by kernel_rfl)) (by unfold Func.isWrapper; first | (rw [if_pos (by decide +kernel)]; kernel_rfl) | (rw [if_neg (by decide +kernel)]; exact ⟨rfl, rfl⟩))
    (fun os started H enc _ => law_lifted (C := Tryz.checked) (s := Rows.traceBlindSpec) (conds := Rows.traceBlindRow.domain) 4 (by kernel_rfl) (by kernel_rfl) Tryz.func10 (by kernel_rfl) (by kernel_rfl) rfl
      (fun H ds hd => match ds, hd with | [_, _, _, _, _], _ => rfl) (by kernel_rfl) Tryz.underlying4 traceBlind_calls os started H enc
      (ChangeSpec.witness6 (enc := enc) (C := Tryz.checked) false ⟨#[], #[.agg #[.int .u8 0, .int .i64 0, .int .i64 0, .int .u64 0, .int .u64 0, .int .u64 0, .slice none 0 0, .int .u8 0, .int .i64 0, .int .i64 0, .int .u8 0, .int .u8 0, .int .u8 0, .int .u8 0, .int .u8 0, .int .u8 0, .int .u8 0, .int .u8 0, .int .u8 0, .int .u8 0, .int .u8 0, .int .u8 0, .int .u8 0, .int .u8 0, .int .u8 0, .int .u8 0, .int .i64 0, .int .i64 0], .slice none 0 0, .int .i64 0, .agg #[.int .i64 0, .int .i64 0], .int .i64 0], []⟩ 8 (by kernel_rfl) (by kernel_rfl) (by kernel_rfl) (by kernel_rfl)))
#print axioms traceBlind_holds
end Go.Proofs.YtoegpalacppllaaGreat

