/- Part 4 of 5: what the law of this claim leans on -/
import Derived.Test.YtoegpalacppllaaGreatPkE3
import Derived.Lib.AppendZerosOnto
import Derived.Lib.Overlaps
import Derived.Scope
import Derived.Control
/- Lists, collected and sorted by the library. -/
namespace Go.Proofs.YtoegpalacppllaaGreat
open Go.RowKit Pl
open Tr Hn
set_option maxRecDepth 10000 in
/-- slices.AppendSeq[[]int,int] -/
theorem g_AppendSeq (g : Nat) (aa : Option Addr) (an ac : Nat) (l : List Int) (hl : l.length ≤ 4294967296) : GivesX Tryz.prog 184 [.slice none 0 0, .func (.func 163) #[] #[.pointer (some ⟨g, 0, none⟩)]].toArray (fun w => RdV w g ⟨aa, an, ac⟩ l) (NewSl 3 1 an (il l)) := by
 refine givesXM_of Tryz.func184 rfl (bs := [.slice none 0 0, .func (.func 163) #[] #[.pointer (some ⟨g, 0, none⟩)], undef, undef, undef, undef, undef, undef, undef, undef, undef, undef, undef]) rfl ?_
 intro w hP hW
 have hn : an = l.length := hP.rd.len
 refine c_seq (c_reg ?_)
 refine l_boxC hW (v := .slice _ _ _) rfl rfl rfl rfl rfl ?_
 intro g1 W hW
 refine bS ?_
 refine l_end (n_then (c_seq (c_seq (c_reg ?_))))
 refine l_val (r_move (v := .func _ _ _) rfl rfl) rfl rfl ?_
 refine l_end (n_then (c_block ?_))
 refine c_rangeJ (j_Values l g aa an ac hl hP) en163 rfl (fun _ => rfl) (fun i Lc => ∃ a c Bs, Lc = ⟨g1, [.slice a i c], 27⟩ :: Bs ∧ OwnSl 3 1 a i c (il (l.take i)) Bs) ⟨none, 0, [], rfl, by rw [List.take_zero]; exact OwnSl.nil 3 1⟩ hW (fun (i : Nat) => fr [.slice none 0 0, .func (.func 163) #[] #[.pointer (some ⟨g, 0, none⟩)], .pointer (some ⟨g1, 0, none⟩), undef, .slice none 0 0, .int .i64 (at_ l i), .func (.func 163) #[] #[.pointer (some ⟨g, 0, none⟩)], .int .i64 (at_ l i), undef, undef, undef, undef, undef] [] []) (fun (i : Nat) => [.slice none 0 0, .func (.func 163) #[] #[.pointer (some ⟨g, 0, none⟩)], .pointer (some ⟨g1, 0, none⟩), undef, .slice none 0 0, undef, .func (.func 163) #[] #[.pointer (some ⟨g, 0, none⟩)], .int .i64 (at_ l i), undef, undef, undef, undef, undef]) (fun _ => by kernel_rfl) ?_ ?_ ?_
 ·intro lq i W
  refine c_reg ?_
  refine bI ?_
  refine l_end ?_
  refine n_then ⟨?_, rfl⟩
  exact congrArg (fun x => (fr x [] [] : Act)) (by kernel_rfl)
 ·intro lq r i L Lc W hi hJ hW
  obtain ⟨a, c, Bs, rfl, hO⟩ := hJ
  replace hW := (show Cl _ (_ :: (Bs ++ L)) _ from hW).perm (List.Perm.cons _ List.perm_append_comm)
  refine c_block (c_reg ?_)
  refine dC hW 0 tyC27 ?_
  refine aI ?_
  refine l_buildSliceF hW (bsl27_1_0 _) rfl rfl rfl rfl ?_
  intro gb W hW
  refine l_appendB tyE27 (L := ⟨gb, _, _⟩ :: ⟨g1, _, _⟩ :: L) hO hW 0 (N := i + 1) rfl rfl rfl rfl rfl rfl rfl rfl (by simp [Value.oneCell']) (by unfold maxLen; omega) (by omega) ?_
  intro a1 c1 Bs1 W hO1 hW
  replace hO1 := hO1.castx rfl (xs' := il (l.take (i + 1))) (il_snoc (by omega))
  refine l_storeC hW 1 tyC27 (v := .slice _ _ _) rfl rfl rfl rfl rfl rfl (by first | rfl | omega | (simp; done) | (simp; omega)) rfl ?_
  intro W hW
  refine l_end (n_block ?_)
  exact ⟨rfl, _, ⟨a1, c1, Bs1, rfl, hO1⟩, (show Cl _ (_ :: (L ++ Bs1)) _ from hW.drop 1).perm (List.Perm.cons _ List.perm_append_comm)⟩
 ·intro D r Lc W hDb hJ hW hD
  obtain ⟨a, c, Bs, rfl, hO⟩ := hJ
  rw [List.take_of_length_le (by omega)] at hO
  refine n_block (n_then (c_seq (c_reg ?_)))
  refine dC hW 0 tyC27 ?_
  refine bS ?_
  refine l_end (n_then (c_ret ?_))
  refine r_mark hW hDb hD ?_
  intro r W hW
  refine ret_tmp (v := .slice _ _ _) rfl rfl ?_
  exact ⟨_, _, rfl, ⟨a, c, rfl, hO⟩, (show Cl _ (_ :: Bs) _ from hW).tobase.drop 1⟩

set_option maxRecDepth 10000 in
/-- slices.Collect[int] -/
theorem g_Collect (g : Nat) (aa : Option Addr) (an ac : Nat) (l : List Int) (hl : l.length ≤ 4294967296) : GivesX Tryz.prog 161 [.func (.func 163) #[] #[.pointer (some ⟨g, 0, none⟩)]].toArray (fun w => RdV w g ⟨aa, an, ac⟩ l) (NewSl 3 1 an (il l)) := by
 refine givesX_of Tryz.func161 rfl (bs := [.func (.func 163) #[] #[.pointer (some ⟨g, 0, none⟩)], undef, undef, undef, undef]) rfl ?_
 intro w hP hW
 refine c_seq (c_reg ?_)
 refine bS ?_
 refine l_end (n_then (c_seq (c_reg ?_)))
 refine l_val (r_move (v := .func _ _ _) rfl rfl) rfl rfl ?_
 refine l_callX hW (g_AppendSeq g aa an ac l hl) en184 (hP.past hW.below) rfl rfl rfl rfl ?_
 rintro _ Bs W ⟨a1, c1, rfl, hO⟩ hW
 refine bS ?_
 refine l_end (n_then (c_ret ?_))
 refine ret_tmp (v := .slice _ _ _) rfl rfl ?_
 exact ⟨_, _, rfl, ⟨a1, c1, rfl, hO⟩, hW⟩

theorem sortsI : SortsI Tryz.prog 162 := ⟨Tryz.slices_Sort_int, Tryz.slices_Sort_int_none⟩
set_option maxRecDepth 10000 in
/-- slices.Sorted[int] -/
theorem g_Sorted (g : Nat) (aa : Option Addr) (an ac : Nat) (l : List Int) (hl : l.length ≤ 4294967296) : GivesX Tryz.prog 126 [.func (.func 163) #[] #[.pointer (some ⟨g, 0, none⟩)]].toArray (fun w => RdV w g ⟨aa, an, ac⟩ l) (NewSl 3 1 an (il (sortI l))) := by
 refine givesX_of Tryz.func126 rfl (bs := [.func (.func 163) #[] #[.pointer (some ⟨g, 0, none⟩)], undef, undef, undef, undef, undef, undef, undef, undef]) rfl ?_
 intro w hP hW
 have hn : an = l.length := hP.rd.len
 refine c_seq (c_reg ?_)
 refine bS ?_
 refine l_end (n_then (c_seq (c_reg ?_)))
 refine l_val (r_move (v := .func _ _ _) rfl rfl) rfl rfl ?_
 refine l_callX hW (g_Collect g aa an ac l hl) en161 (hP.past hW.below) rfl rfl rfl rfl ?_
 rintro _ Bs W ⟨a1, c1, rfl, hO⟩ hW
 refine bS ?_
 refine l_end (n_then (c_seq (c_reg ?_)))
 refine aS ?_
 refine l_sort sortsI (L := []) hO hW (by omega) en162 rfl rfl rfl rfl ?_
 intro Bs1 W hO1 hW
 refine l_end (n_then (c_seq (c_reg ?_)))
 refine aS ?_
 refine bS ?_
 refine l_end (n_then (c_ret ?_))
 refine ret_tmp (v := .slice _ _ _) rfl rfl ?_
 exact ⟨_, _, rfl, ⟨a1, c1, rfl, hO1⟩, hW⟩

set_option maxRecDepth 10000 in
/-- slices.Grow[[]int,int] -/
theorem g_Grow (n : Nat) (hn : n ≤ 17592186043904) : GivesX Tryz.prog 164 [.slice none 0 0, .int .i64 (n : Int)].toArray (fun _ => True) (NewSl 3 1 0 []) := by
 refine givesX_of Tryz.func164 rfl (bs := [.slice none 0 0, .int .i64 (n : Int), undef, undef, undef, undef, undef, undef, undef, undef, undef, undef, undef, undef, undef, undef, undef, undef, undef, undef, undef, undef, undef, undef, undef, undef, undef]) rfl ?_
 intro w hP hW
 refine c_seq (c_reg ?_)
 refine bS ?_
 refine l_end (n_then (c_seq (c_seq (c_reg ?_))))
 refine aI ?_
 refine l_val (r_lssN (b := false) (n := 0) rfl rfl rfl (decide_eq_false (by omega))) rfl rfl ?_
 refine l_end (n_then ?_)
 refine c_false rfl ?_
 refine c_skip (n_then (c_seq (c_seq (c_reg ?_))))
 refine aI ?_
 refine aS ?_
 refine l_val (r_cap Tryz.underlying27 rfl rfl) rfl rfl ?_
 refine aS ?_
 refine l_val (r_lenSlice Tryz.underlying27 rfl rfl) rfl rfl ?_
 refine l_val (r_subN rfl rfl rfl (by omega) (by omega)) rfl rfl ?_
 refine l_val (r_subN rfl rfl rfl (by omega) (by omega)) rfl rfl ?_
 refine bI ?_
 refine l_end (n_then (c_seq (c_reg ?_)))
 refine aI ?_
 refine l_val (r_gtrN (n := 0) rfl rfl rfl rfl) rfl rfl ?_
 refine l_split ?_ ?_
 ·intro hc1
  replace hc1 := of_decide_eq_true hc1
  refine l_end (n_then ?_)
  refine c_true rfl ?_
  refine c_reg ?_
  refine aS ?_
  refine aS ?_
  refine l_val (r_cap Tryz.underlying27 rfl rfl) rfl rfl ?_
  refine l_val (r_sliceTo (h := 0) Tryz.underlying27 tyC3.size rfl rfl rfl (by omega) (fun _ => rfl)) rfl rfl ?_
  refine aI ?_
  refine l_appendZ (k := n) tyE27 Tryz.underlying3 hW (by omega) (by omega) (by omega) rfl rfl rfl rfl rfl ?_
  intro gn cn cur W h1 h2 h3 hW
  refine aS ?_
  refine l_val (r_lenSlice Tryz.underlying27 rfl rfl) rfl rfl ?_
  refine l_val (r_sliceTo (h := 0) Tryz.underlying27 tyC3.size rfl rfl rfl (by omega) (fun h => by cases h)) rfl rfl ?_
  refine bS ?_
  refine l_end (n_then (c_seq (c_reg ?_)))
  refine aS ?_
  refine bS ?_
  refine l_end (n_then (c_ret ?_))
  refine ret_tmp (v := .slice _ _ _) rfl rfl ?_
  exact ⟨_, _, rfl, ⟨_, _, rfl, ⟨by simp, .inr ⟨gn, cur, rfl, rfl, by omega, h2, by omega, by simp⟩⟩⟩, hW⟩
 ·intro hc1
  replace hc1 := of_decide_eq_false hc1
  refine l_end (n_then ?_)
  refine c_false rfl ?_
  refine c_skip (n_then (c_seq (c_reg ?_)))
  refine aS ?_
  refine bS ?_
  refine l_end (n_then (c_ret ?_))
  refine ret_tmp (v := .slice _ _ _) rfl rfl ?_
  exact ⟨_, _, rfl, ⟨_, _, rfl, OwnSl.nil 3 1⟩, hW⟩

end Go.Proofs.YtoegpalacppllaaGreat

/- An iterator over a list. -/
namespace Go.Proofs.YtoegpalacppllaaGreat
open Go.RowKit Pl
open Tr Hn
set_option maxRecDepth 10000 in
/-- slices.Values[[]int,int] -/
theorem g_Values (aa : Option Addr) (an ac : Nat) : GivesX Tryz.prog 127 [.slice aa an ac].toArray (fun _ => True) (fun v Bs => ∃ g, v = .func (.func 163) #[] #[.pointer (some ⟨g, 0, none⟩)] ∧ Bs = [⟨g, [.slice aa an ac], 27⟩]) := by
 refine givesX_of Tryz.func127 rfl (bs := [.slice aa an ac, undef, undef, undef]) rfl ?_
 intro w hP hW
 refine c_seq (c_reg ?_)
 refine l_boxC hW (v := .slice _ _ _) rfl rfl rfl rfl rfl ?_
 intro g1 W hW
 refine l_val (r_assign (v := .nilFunc) rfl rfl) rfl rfl ?_
 refine l_end (n_then (c_seq (c_reg ?_)))
 refine l_val (r_closure (vs := [.pointer (some ⟨g1, 0, none⟩)]) rfl rfl) rfl rfl ?_
 refine l_val (r_assign (v := .func _ _ _) rfl rfl) rfl rfl ?_
 refine l_end (n_then (c_ret ?_))
 refine ret_tmp (v := .func _ _ _) rfl rfl ?_
 exact ⟨_, _, rfl, ⟨g1, rfl, rfl⟩, hW⟩

end Go.Proofs.YtoegpalacppllaaGreat

/- Merged lists, by the program. -/
namespace Go.Proofs.YtoegpalacppllaaGreat
open Go.RowKit Pl
open Tr Hn
set_option maxRecDepth 10000 in
/-- slices.Concat[[]int,int] -/
theorem g_Concat (aa : Option Addr) (an ac : Nat) (cs : List Sl) (gs : List (List Int)) (hm : sumL gs ≤ 4294967296) (han : an ≤ 4294967296) : GivesX Tryz.prog 128 [.slice aa an ac].toArray (fun w => RdG w ⟨aa, an, ac⟩ cs gs) (NewSl 3 1 (sumL gs) (il gs.flatten)) := by
 refine givesX_of Tryz.func128 rfl (bs := [.slice aa an ac, undef, undef, undef, undef, undef, undef, undef, undef, undef, undef, undef, undef, undef, undef, undef, undef, undef, undef, undef, undef, undef, undef, undef, undef, undef, undef, undef, undef, undef, undef, undef, undef, undef, undef, undef]) rfl ?_
 intro w hP hW
 have hn : an = gs.length := by have h1 := hP.n; have h2 := hP.len; simp only at h1; omega
 refine c_seq (c_reg ?_)
 refine bS ?_
 refine l_end (n_then (c_seq (c_reg ?_)))
 refine bI ?_
 refine l_end (n_then (c_seq (c_seq (c_reg ?_))))
 refine aS ?_
 refine l_val (r_lenSlice Tryz.underlying150 rfl rfl) rfl rfl ?_
 refine aI ?_
 refine l_end (n_then (c_block ?_))
 refine c_loop (fun (x : Nat × Nat) (j : Nat → Value) => [.slice aa an ac, j 1, j 2, .int .i64 (x.2 : Int), j 4, j 5, j 6, j 7, j 8, .slice aa an ac, .int .i64 (an : Int), .int .i64 (x.1 : Int), j 12, j 13, j 14, j 15, j 16, j 17, j 18, j 19, j 20, j 21, j 22, j 23, j 24, j 25, j 26, j 27, j 28, j 29, j 30, j 31, j 32, j 33, j 34, j 35]) (fun (x : Nat × Nat) => []) (fun (x : Nat × Nat) => x.1 ≤ an ∧ x.2 = sumL (gs.take x.1)) (fun (x : Nat × Nat) => an - x.1) (0, 0) (by kernel_rfl) hW ⟨Nat.zero_le _, rfl⟩ ?_
 intro x j W hx hW
 obtain ⟨i, m⟩ := x
 obtain ⟨hx, hm2⟩ := hx
 simp only at hx hm2
 have hle := sumL_take_le gs i
 refine c_seq (c_reg ?_)
 refine l_val (r_lssN rfl rfl rfl rfl) rfl rfl ?_
 refine l_split ?_ ?_
 ·intro hc1
  replace hc1 := of_decide_eq_true hc1
  obtain ⟨b0, o0, ha⟩ := hP.ptr (by omega)
  subst ha
  obtain ⟨s, l, e, f, hc, hr⟩ := hP.get (i := i) (by omega)
  have hsl := hr.len
  have htk := sumL_take_le gs (i + 1)
  rw [sumL_take f] at htk
  refine l_end (n_then (c_seq ?_))
  refine c_true rfl ?_
  refine c_skip (n_then (c_seq (c_block (c_seq (c_reg ?_)))))
  refine l_val (r_indexAddrSl2 (n := i) Tryz.underlying150 tyC27.size rfl rfl rfl (by omega)) rfl rfl ?_
  refine l_loadF hW tyC27 (v := s.v) hc rfl rfl rfl rfl ?_
  refine bS ?_
  refine l_end (n_then (c_seq (c_reg ?_)))
  refine aI ?_
  refine aS ?_
  refine l_val (r_lenSlice Tryz.underlying27 rfl rfl) rfl rfl ?_
  refine l_val (r_addN rfl rfl rfl (by omega)) rfl rfl ?_
  refine bI ?_
  refine l_end (n_then (c_seq (c_reg ?_)))
  refine aI ?_
  refine l_val (r_lssN (b := false) (n := 0) rfl rfl rfl (decide_eq_false (by omega))) rfl rfl ?_
  refine l_end (n_then ?_)
  refine c_false rfl ?_
  refine c_skip (n_block (n_then (c_reg ?_)))
  refine l_val (r_addN (n := 1) rfl rfl rfl (by omega)) rfl rfl ?_
  refine aI ?_
  refine l_end (n_then ?_)
  exact loop_next (i + 1, m + s.n) (by kernel_rfl) hW ⟨by simp only; omega, by simp only; rw [sumL_take f]; omega⟩ (by simp only; omega)
 ·intro hc1
  replace hc1 := of_decide_eq_false hc1
  have e0 : i = an := by omega
  rw [e0, List.take_of_length_le (by omega)] at hm2
  refine l_end (n_then (c_seq ?_))
  refine c_false rfl ?_
  refine c_exit (x_then (x_then ?_))
  refine x_hit ?_
  refine n_then (c_seq (c_reg ?_))
  refine aI ?_
  refine l_callX hW (g_Grow m (by omega)) en164 trivial rfl rfl rfl rfl ?_
  rintro _ Bs W ⟨a0, c0, rfl, hO0⟩ hW
  refine bS ?_
  refine l_end (n_then (c_seq (c_seq (c_reg ?_))))
  refine aS ?_
  refine l_val (r_lenSlice Tryz.underlying150 rfl rfl) rfl rfl ?_
  refine aI ?_
  refine l_end (n_then (c_block ?_))
  refine c_loop (fun (y : Nat × Nat × Option Addr × Nat × List Blk) (j : Nat → Value) => [.slice aa an ac, j 1, j 2, j 3, j 4, j 5, .slice y.2.2.1 y.2.1 y.2.2.2.1, j 7, j 8, .slice aa an ac, .int .i64 (an : Int), j 11, .bool false, j 13, j 14, j 15, j 16, j 17, j 18, j 19, j 20, j 21, j 22, j 23, .slice a0 0 c0, .slice aa an ac, .int .i64 (an : Int), .int .i64 (y.1 : Int), j 28, j 29, j 30, j 31, j 32, j 33, j 34, j 35]) (fun (y : Nat × Nat × Option Addr × Nat × List Blk) => [] ++ y.2.2.2.2) (fun (y : Nat × Nat × Option Addr × Nat × List Blk) => y.1 ≤ an ∧ OwnSl 3 1 y.2.2.1 y.2.1 y.2.2.2.1 (il (gs.take y.1).flatten) y.2.2.2.2) (fun (y : Nat × Nat × Option Addr × Nat × List Blk) => an - y.1) (0, 0, a0, c0, Bs) (by kernel_rfl) hW ⟨Nat.zero_le _, hO0⟩ ?_
  intro y j W hx hW
  obtain ⟨hy, hO⟩ := hx
  have hyn := hO.1
  rw [il_len, ← sumL_flat] at hyn
  refine c_seq (c_reg ?_)
  refine l_val (r_lssN rfl rfl rfl rfl) rfl rfl ?_
  refine l_split ?_ ?_
  ·intro hc2
   replace hc2 := of_decide_eq_true hc2
   obtain ⟨b0, o0, ha⟩ := hP.ptr (by omega)
   subst ha
   obtain ⟨s, l, e, f, hc, hr⟩ := hP.get (i := y.1) (by omega)
   have hsl := hr.len
   have htk := sumL_take_le gs (y.1 + 1)
   rw [sumL_take f] at htk
   refine l_end (n_then (c_seq ?_))
   refine c_true rfl ?_
   refine c_skip (n_then (c_seq (c_block (c_seq (c_reg ?_)))))
   refine l_val (r_indexAddrSl2 (n := y.1) Tryz.underlying150 tyC27.size rfl rfl rfl (by omega)) rfl rfl ?_
   refine l_loadF hW tyC27 (v := s.v) hc rfl rfl rfl rfl ?_
   refine bS ?_
   refine l_end (n_then (c_reg ?_))
   refine aS ?_
   refine aS ?_
   refine l_appendR tyE27 (L := []) hO hW (hr.past hW.below).rd (N := y.2.1 + s.n) rfl rfl rfl rfl rfl rfl (by rw [il_len]; exact hsl.symm) (fun h => ⟨hr.ok.nil0 h, hr.ok.nil h⟩) (il_one _) (by unfold maxLen; omega) (by omega) ?_
   intro a1 c1 Bs1 W hO1 hW
   replace hO1 := hO1.castx rfl (xs' := il (gs.take (y.1 + 1)).flatten) (by rw [take_flat f, il_append])
   refine bS ?_
   refine l_end (n_block (n_then (c_reg ?_)))
   refine l_val (r_addN (n := 1) rfl rfl rfl (by omega)) rfl rfl ?_
   refine aI ?_
   refine l_end (n_then ?_)
   exact loop_next (y.1 + 1, y.2.1 + s.n, a1, c1, Bs1) (by kernel_rfl) hW ⟨by simp only; omega, hO1⟩ (by simp only; omega)
  ·intro hc2
   replace hc2 := of_decide_eq_false hc2
   have e : y.1 = an := by omega
   rw [e, List.take_of_length_le (by omega)] at hO
   have e2 : y.2.1 = sumL gs := by rw [e, List.take_of_length_le (by omega)] at hyn; omega
   rw [e2] at hO
   refine l_end (n_then (c_seq ?_))
   refine c_false rfl ?_
   refine c_exit (x_then (x_then ?_))
   refine x_hit ?_
   refine n_then (c_seq (c_reg ?_))
   refine aS ?_
   refine bS ?_
   refine l_end (n_then (c_ret ?_))
   refine ret_tmp (v := .slice _ _ _) rfl rfl ?_
   exact ⟨_, _, rfl, ⟨_, _, by rw [e2], hO⟩, hW⟩

set_option maxRecDepth 10000 in
/-- headend/trace.merged[int] -/
theorem g_merged (aa : Option Addr) (an ac : Nat) (cs : List Sl) (gs : List (List Int)) (hm : sumL gs ≤ 4294967296) (han : an ≤ 4294967296) : GivesX Tryz.prog 80 [.slice aa an ac].toArray (fun w => RdG w ⟨aa, an, ac⟩ cs gs) (fun v Bs => ∃ s : Sl, v = s.v ∧ NewI s (sortI gs.flatten) Bs) := by
 refine givesX_of Tryz.func80 rfl (bs := [.slice aa an ac, undef, undef, undef, undef, undef, undef]) rfl ?_
 intro w hP hW
 refine c_seq (c_reg ?_)
 refine bS ?_
 refine l_end (n_then (c_seq (c_reg ?_)))
 refine aS ?_
 refine l_callX hW (g_Concat aa an ac cs gs hm han) en128 (hP.past hW.below) rfl rfl rfl rfl ?_
 rintro _ Bs W ⟨a1, c1, rfl, hO⟩ hW
 refine l_callX hW (g_Values a1 (sumL gs) c1) en127 trivial rfl rfl rfl rfl ?_
 rintro _ _ W ⟨g, rfl, rfl⟩ hW
 refine l_callX hW (g_Sorted g a1 (sumL gs) c1 gs.flatten (by rw [← sumL_flat]; exact hm)) en126 ⟨by rw [cell_at (hW.holds ⟨g, [.slice a1 (sumL gs) c1], 27⟩ (by simp))]; rfl, hO.rep.at hW (List.sublist_append_left Bs _)⟩ rfl rfl rfl rfl ?_
 rintro _ Bs2 W ⟨a2, c2, rfl, hO2⟩ hW
 refine bS ?_
 refine l_end (n_then (c_ret ?_))
 refine ret_tmp (v := .slice _ _ _) rfl rfl ?_
 exact ⟨_, Bs2, rfl, ⟨_, rfl, hO2.newI⟩, hW.sub (List.sublist_append_right _ _)⟩

end Go.Proofs.YtoegpalacppllaaGreat

/- Partitions, and queries of a trace, by the program. -/
namespace Go.Proofs.YtoegpalacppllaaGreat
open Go.RowKit Pl
open Tr Hn
set_option maxRecDepth 10000 in
/-- slices.Clone[[]headend/api.Subset,headend/api.Subset] -/
theorem g_CloneB (aa : Option Addr) (an ac : Nat) (l : List (Int × Int)) (hl : l.length ≤ 4294967296) : GivesX Tryz.prog 61 [.slice aa an ac].toArray (fun w => RdB w ⟨aa, an, ac⟩ l) (NewSl 64 2 l.length (sl2 l)) := by
 refine givesX_of Tryz.func61 rfl (bs := [.slice aa an ac, undef, undef, undef, undef, undef, undef, undef]) rfl ?_
 intro w hP hW
 have hn : an = l.length := hP.len
 refine c_seq (c_reg ?_)
 refine bS ?_
 refine l_end (n_then (c_seq (c_seq (c_reg ?_))))
 refine aS ?_
 refine l_val (r_eqlNil Tryz.underlying33 rfl rfl rfl rfl) rfl rfl ?_
 refine l_split ?_ ?_
 ·intro hc1
  replace hc1 := of_decide_eq_true hc1
  refine l_end (n_then ?_)
  refine c_true rfl ?_
  refine c_seq (c_reg ?_)
  refine bS ?_
  refine l_end (n_then (c_ret (r_then ?_)))
  refine ret_tmp (v := .slice _ _ _) rfl rfl ?_
  have h0 : l = [] := List.eq_nil_of_length_eq_zero (by have := hP.ok.nil0 hc1; simp only at this; omega)
  exact ⟨_, [], rfl, by rw [h0]; exact ⟨none, 0, rfl, OwnSl.nil 64 2⟩, hW.sub (List.nil_sublist _)⟩
 ·intro hc1
  replace hc1 := of_decide_eq_false hc1
  refine l_end (n_then ?_)
  refine c_false rfl ?_
  refine c_skip (n_then (c_seq (c_reg ?_)))
  refine l_buildSliceF hW bsl33_0_ rfl rfl rfl rfl ?_
  intro ge W hW
  refine aS ?_
  refine l_twinB tyE33 hW (s := ⟨aa, an, ac⟩) (RdB.past hP hW.below) (by unfold maxLen; omega) (by omega) rfl rfl rfl rfl rfl ?_
  intro a2 c2 Bs W hs hW
  refine bS ?_
  refine l_end (n_then (c_ret ?_))
  refine ret_tmp (v := .slice _ _ _) rfl rfl ?_
  exact ⟨_, _, rfl, ⟨_, _, rfl, hs⟩, hW⟩

theorem allm_len {s : Sc} (hd : s.d ≤ 6) : ∀ (l : List (Int × Int)), (allm s l).length ≤ l.length * 64
 | [] => Nat.zero_le _
 | x :: l => by
  have h1 := mem_len s x.1 x.2 (p2 s.d.toNat)
  have h2 := p2_le (n := s.d.toNat) (by omega)
  have h3 := allm_len hd l
  rw [allm_cons, List.length_append, List.length_cons, Nat.succ_mul]; omega
theorem compI : CompI Tryz.prog 86 := ⟨Tryz.slices_Compact_int, Tryz.slices_Compact_int_empty⟩
set_option maxRecDepth 10000 in
/-- headend/trace.CheckParts -/
theorem g_CheckParts (s : Sc) (ba : Option Addr) (bn bc : Nat) (l : List (Int × Int)) (hl : l.length ≤ 5000) : GivesR Tryz.prog 37 [.agg [.int .u8 s.k, .int .i64 s.d, .int .i64 s.g, .int .u64 s.p, .int .u64 s.q, .int .u64 s.r].toArray, .slice ba bn bc].toArray (fun w => RdB w ⟨ba, bn, bc⟩ l) (.int .i64 (partsE s l)) := by
 refine givesR_of Tryz.func37 rfl (bs := [.agg [.int .u8 s.k, .int .i64 s.d, .int .i64 s.g, .int .u64 s.p, .int .u64 s.q, .int .u64 s.r].toArray, .slice ba bn bc, undef, undef, undef, undef, undef, undef, undef, undef, undef, undef, undef, undef, undef, undef, undef, undef, undef, undef, undef, undef, undef, undef, undef, undef, undef, undef, undef, undef, undef, undef]) rfl ?_
 intro w hP hW
 have hn : bn = l.length := hP.len
 refine c_seq (c_reg ?_)
 refine xB hW ?_
 intro g1 W hW
 refine bI ?_
 refine l_end (n_then (c_seq (c_seq (c_reg ?_))))
 refine dA hW 0 tyA26 ?_
 refine l_call hW (g_Check _) en68 rfl rfl rfl rfl ?_
 intro W hW
 refine bI ?_
 refine l_end (n_then (c_seq (c_reg ?_)))
 refine aI ?_
 refine l_val (r_neq rfl rfl rfl rfl) rfl rfl ?_
 refine l_split ?_ ?_
 ·intro hc1
  replace hc1 := of_decide_eq_true hc1
  have hs := chk_bad hc1
  refine l_end (n_then ?_)
  refine c_true rfl ?_
  refine c_seq (c_reg ?_)
  refine aI ?_
  refine bI ?_
  refine l_end (n_then (c_ret (r_then ?_)))
  refine ret_tmp (v := .int .i64 (partsE s l)) rfl ?_ ⟨rfl, hW.below⟩
  exact congrArg (Value.int .i64) (parts_s hc1).symm
 ·intro hc1
  replace hc1 := of_decide_eq_false hc1
  have hs := chk_zero hc1
  obtain ⟨k1, k3, d0, d6, -⟩ := schB_iff.1 hs
  have hp := p2_le (n := s.d.toNat) (by omega)
  refine l_end (n_then ?_)
  refine c_false rfl ?_
  refine c_skip (n_then (c_seq (c_reg ?_)))
  refine dA hW 0 tyA26 ?_
  refine aS ?_
  refine l_callX hW (g_psubsets s ba bn bc l hs hl) en83 (hP.past hW.below) rfl rfl rfl rfl ?_
  rintro _ BsS W ⟨tS, ss, rfl, hG⟩ hW
  refine l_val (r_move (v := .tuple _) rfl rfl) rfl rfl ?_
  refine l_val (r_extract (v := .slice _ _ _) rfl rfl rfl) rfl rfl ?_
  refine l_val (r_extract (v := .int _ _) rfl rfl rfl) rfl rfl ?_
  refine bS ?_
  refine bI ?_
  refine l_end (n_then (c_seq (c_seq (c_reg ?_))))
  refine aI ?_
  refine l_val (r_neq rfl rfl rfl rfl) rfl rfl ?_
  refine l_split ?_ ?_
  ·intro hc2
   replace hc2 := of_decide_eq_true hc2
   refine l_end (n_then ?_)
   refine c_true rfl ?_
   refine c_seq (c_reg ?_)
   refine aI ?_
   refine bI ?_
   refine l_end (n_then (c_ret (r_then ?_)))
   refine ret_tmp (v := .int .i64 (partsE s l)) rfl ?_ ⟨rfl, hW.below⟩
   exact congrArg (Value.int .i64) (parts_l (fun e => hc1 e) hc2).symm
  ·intro hc2
   replace hc2 := of_decide_eq_false hc2
   have hz0 : subsE s l = 0 := by omega
   have hal := allm_len d6 l
   have hsi := sortI_len (allm s l)
   obtain ⟨tn, hmn⟩ : ∃ tn, tn = tS.n := ⟨_, rfl⟩
   refine l_end (n_then ?_)
   refine c_false rfl ?_
   refine c_skip (n_then (c_seq (c_reg ?_)))
   refine aS ?_
   have hG1 := (hG hz0).at hW (List.sublist_append_right [_] BsS)
   have htn : tS.n = l.length := by have h1 := hG1.n; have h2 := hG1.len; rw [mems_len] at h2; omega
   refine l_callX hW (g_merged tS.a tS.n tS.c ss (mems s l) (by rw [sumL_flat]; exact Nat.le_trans hal (by omega)) (by omega)) en80 hG1 rfl rfl rfl rfl ?_
   rintro _ BM W ⟨sm, rfl, hNM⟩ hW
   replace hNM : NewI sm (sortI (allm s l)) BM := hNM
   have hmn2 := hNM.n
   refine bS ?_
   refine l_end (n_then (c_seq (c_seq (c_reg ?_))))
   refine aS ?_
   refine l_callX hW (g_Clone sm.a sm.n sm.c (sortI (allm s l)) (by omega)) en60 (hNM.rep.at hW (List.sublist_append_right _ BM)) rfl rfl rfl rfl ?_
   rintro _ BC W ⟨sc, rfl, hNC⟩ hW
   refine l_compact compI hNC hW (by omega) en86 rfl rfl rfl rfl ?_
   intro W hW
   refine l_val (r_lenSlice Tryz.underlying27 rfl rfl) rfl rfl ?_
   refine aS ?_
   refine l_val (r_lenSlice Tryz.underlying27 rfl rfl) rfl rfl ?_
   refine l_val (r_lssN rfl rfl rfl rfl) rfl rfl ?_
   refine l_split ?_ ?_
   ·intro hc3
    replace hc3 := of_decide_eq_true hc3
    refine l_end (n_then ?_)
    refine c_true rfl ?_
    refine c_seq (c_reg ?_)
    refine bI ?_
    refine l_end (n_then (c_ret (r_then ?_)))
    refine ret_tmp (v := .int .i64 (partsE s l)) rfl ?_ ⟨rfl, hW.below⟩
    exact congrArg (Value.int .i64) (parts_n hc1 hc2 (compact_sort.1 (by omega))).symm
   ·intro hc3
    replace hc3 := of_decide_eq_false hc3
    refine l_end (n_then ?_)
    refine c_false rfl ?_
    refine c_skip (n_then (c_seq (c_reg ?_)))
    refine bI ?_
    refine l_end (n_then (c_ret ?_))
    refine ret_tmp (v := .int .i64 (partsE s l)) rfl ?_ ⟨rfl, hW.below⟩
    exact congrArg (Value.int .i64) (parts_y hc1 hc2 (Classical.not_not.1 fun hn => absurd (compact_sort.2 hn) (by omega))).symm

set_option maxRecDepth 10000 in
/-- (*headend/trace.tracer).seen -/
theorem g_tseen (q : Bo) (t : Sl) (gx nn a e : Nat) (n2 l2 : Sl) (oa : Option Addr) (on oc : Nat) (o : List Bool) (f : Int) (n0 : 0 ≤ q.n) (n8 : q.n ≤ 8) (x0 : 0 ≤ q.x) (x1 : q.x ≤ q.a) (m1 : 1 ≤ q.m) (m4 : q.m ≤ 4) (hn : nn ≤ 8) (hx2 : q.a + ((2 * nn + 1 : Nat) : Int) ≤ 100000) (ha2 : a ≤ 100000) (ho : o.length ≤ 100) : GivesS Tryz.prog 105 [.pointer (some ⟨gx, 0, none⟩), .slice oa on oc, .int .i64 f].toArray (fun b0 L => ∀ W, Cl b0 L W → RdT W ⟨oa, on, oc⟩ o) [⟨gx, (boC q t ++ trR nn n2 l2 a e), 124⟩] (fun v B => v = .bool (seenN o f (2 * nn + 1) q a).2.1 ∧ B = [⟨gx, boC (seenN o f (2 * nn + 1) q a).1 t ++ trR nn n2 l2 (seenN o f (2 * nn + 1) q a).2.2 e, 124⟩]) := by
 refine givesS_of Tryz.func105 rfl (bs := [.pointer (some ⟨gx, 0, none⟩), .slice oa on oc, .int .i64 f, undef, undef, undef, undef, undef, undef, undef, undef, undef, undef, undef, undef, undef, undef, undef, undef, undef, undef, undef, undef, undef, undef, undef, undef, undef, undef, undef, undef]) rfl ?_
 intro b L w hP hW
 refine c_seq (c_reg ?_)
 refine bB ?_
 refine l_end (n_then (c_seq (c_seq (c_reg ?_))))
 refine aP ?_
 refine l_val (r_nilCheck rfl rfl) rfl rfl ?_
 refine l_val (r_fieldAddr 28 Tryz.underlying124 rfl tyC3.size rfl rfl rfl) rfl rfl ?_
 refine dC hW 0 tyC3 ?_
 refine l_val (r_mulN (m := 2) rfl rfl rfl (by omega)) rfl rfl ?_
 refine l_val (r_addN (n := 1) rfl rfl rfl (by omega)) rfl rfl ?_
 refine aI ?_
 refine l_end (n_then (c_block ?_))
 refine c_loop (fun (z : Nat × Bo) (j : Nat → Value) => [.pointer (some ⟨gx, 0, none⟩), .slice oa on oc, .int .i64 f, j 3, j 4, j 5, j 6, .pointer (some ⟨gx, 0, none⟩), .pointer (some ⟨gx, 0, none⟩), .pointer (some ⟨gx, 28, none⟩), .int .i64 (nn : Int), .int .i64 ((2 * nn : Nat) : Int), .int .i64 (((2 * nn) + 1 : Nat) : Int), .int .i64 (z.1 : Int), j 14, j 15, j 16, j 17, j 18, j 19, j 20, j 21, j 22, j 23, j 24, j 25, j 26, j 27, j 28, j 29, j 30]) (fun (z : Nat × Bo) => [⟨gx, (boC z.2 t ++ trR nn n2 l2 (a + z.1) e), 124⟩] ++ L) (fun (z : Nat × Bo) => z.1 ≤ (2 * nn + 1) ∧ Askd q z.2 z.1 ∧ seenN o f (2 * nn + 1) q a = seenN o f ((2 * nn + 1) - z.1) z.2 (a + z.1)) (fun (z : Nat × Bo) => (2 * nn + 1) - z.1) (0, q) (by kernel_rfl) hW ⟨Nat.zero_le _, Askd.refl x0 x1, rfl⟩ ?_
 intro z j W hx hW
 obtain ⟨hz, ha, hsn⟩ := hx
 have e1 := ha.a
 have e2 := ha.n
 have e3 := ha.x0
 have e4 := ha.x1
 have e5 := ha.m
 refine c_seq (c_reg ?_)
 refine l_val (r_lssN rfl rfl rfl rfl) rfl rfl ?_
 refine l_split ?_ ?_
 ·intro hc1
  replace hc1 := of_decide_eq_true hc1
  refine l_end (n_then (c_seq ?_))
  refine c_true rfl ?_
  refine c_skip (n_then (c_seq (c_block (c_seq (c_reg ?_)))))
  refine aP ?_
  refine l_val (r_nilCheck rfl rfl) rfl rfl ?_
  refine l_val (r_fieldAddr 29 Tryz.underlying124 rfl tyA38.size rfl rfl rfl) rfl rfl ?_
  refine l_val (r_fieldAddr 31 Tryz.underlying38 rfl tyC3.size rfl rfl rfl) rfl rfl ?_
  refine dC hW 0 tyC3 ?_
  refine l_val (r_addN (n := 1) rfl rfl rfl (by omega)) rfl rfl ?_
  refine l_val (r_nilCheck rfl rfl) rfl rfl ?_
  refine l_val (r_fieldAddr 29 Tryz.underlying124 rfl tyA38.size rfl rfl rfl) rfl rfl ?_
  refine l_val (r_fieldAddr 31 Tryz.underlying38 rfl tyC3.size rfl rfl rfl) rfl rfl ?_
  refine l_storeC hW 0 tyC3 (v := .int .i64 ((a + z.1 + 1 : Nat) : Int)) rfl rfl rfl rfl rfl rfl (trR_len (by decide)) rfl ?_
  intro W hW
  replace hW := (show Cl _ ([⟨gx, boC z.2 t ++ trR nn n2 l2 (a + z.1 + 1) e, 124⟩] ++ L) _ from hW)
  refine l_end (n_then (c_seq (c_reg ?_)))
  refine aP ?_
  refine l_val (r_nilCheck rfl rfl) rfl rfl ?_
  refine l_val (r_fieldAddr 0 Tryz.underlying124 rfl tyA31.size rfl rfl rfl) rfl rfl ?_
  refine aS ?_
  refine aI ?_
  refine l_callS (B := [_]) (L := L) (g_askG (trR nn n2 l2 (a + z.1 + 1) e) 124 z.2 t gx oa on oc o f (by omega) (by omega) (by omega) (by omega) (by omega) (by omega) (by omega) (by omega) ho) hW en84 hP rfl rfl rfl rfl ?_
  rintro _ _ W ⟨rfl, rfl⟩ hW
  refine l_split ?_ ?_
  ·intro hc2
   refine l_end (n_then ?_)
   refine c_true rfl ?_
   refine c_seq (c_reg ?_)
   refine bB ?_
   refine l_end (n_then (c_ret (r_block (r_then (r_then (r_block (r_then ?_)))))))
   refine ret_tmp (v := .bool _) rfl rfl ?_
   have e : seenN o f (2 * nn + 1) q a = (askd z.2 o f, true, a + z.1 + 1) := by rw [hsn, show (2 * nn + 1) - z.1 = ((2 * nn + 1) - z.1 - 1) + 1 by omega, seenN_yes hc2]
   exact ⟨_, [_], rfl, ⟨by rw [e], by rw [e]⟩, hW⟩
  ·intro hc2
   refine l_end (n_then ?_)
   refine c_false rfl ?_
   refine c_skip (n_block (n_then (c_reg ?_)))
   refine l_val (r_addN (n := 1) rfl rfl rfl (by omega)) rfl rfl ?_
   refine aI ?_
   refine l_end (n_then ?_)
   exact loop_next (z.1 + 1, askd z.2 o f) (by kernel_rfl) hW ⟨by simp only; omega, by simp only; exact ha.ask o f, by simp only; rw [hsn, show (2 * nn + 1) - z.1 = ((2 * nn + 1) - (z.1 + 1)) + 1 by omega, seenN_no hc2]; rfl⟩ (by simp only; omega)
 ·intro hc1
  replace hc1 := of_decide_eq_false hc1
  refine l_end (n_then (c_seq ?_))
  refine c_false rfl ?_
  refine c_exit (x_then (x_then ?_))
  refine x_hit ?_
  refine n_then (c_seq (c_reg ?_))
  refine bB ?_
  refine l_end (n_then (c_ret ?_))
  refine ret_tmp (v := .bool _) rfl rfl ?_
  have e : seenN o f (2 * nn + 1) q a = (z.2, false, a + z.1) := by rw [hsn, show (2 * nn + 1) - z.1 = 0 by omega, seenN_zero]
  exact ⟨_, [_], rfl, ⟨by rw [e], by rw [e]⟩, hW⟩

end Go.Proofs.YtoegpalacppllaaGreat

/- Splits, by the program. -/
namespace Go.Proofs.YtoegpalacppllaaGreat
open Go.RowKit Pl
open Tr Hn
set_option maxRecDepth 10000 in
/-- headend/cover.Split$1 -/
theorem g_Split1 (p q r t : Int) : GivesX Tryz.prog 148 [.int .i64 p, .int .i64 q, .int .i64 r, .int .i64 t].toArray (fun _ => True) (fun u Bs => ∃ g, u = .tuple #[.slice (some ⟨g, 0, none⟩) 2 2, .int .i64 0] ∧ Bs = [⟨g, [.int .i64 p, .int .i64 q, .int .i64 r, .int .i64 t], 64⟩]) := by
 refine givesX_of Tryz.func148 rfl (bs := [.int .i64 p, .int .i64 q, .int .i64 r, .int .i64 t, undef, undef, undef, undef, undef, undef, undef, undef, undef, undef, undef, undef, undef]) rfl ?_
 intro w hP hW
 refine c_seq (c_reg ?_)
 refine bS ?_
 refine bI ?_
 refine l_end (n_then (c_seq (c_reg ?_)))
 refine aI ?_
 refine aI ?_
 refine l_val (r_build (ps := [(0, .int _ _), (1, .int _ _)]) (bld64_0_1 _ _) rfl rfl) rfl rfl ?_
 refine aI ?_
 refine aI ?_
 refine l_val (r_build (ps := [(0, .int _ _), (1, .int _ _)]) (bld64_0_1 _ _) rfl rfl) rfl rfl ?_
 refine l_buildSliceF hW (bsl33_2_0_1 _ _ _ _) rfl rfl rfl rfl ?_
 intro gs W hW
 refine bS ?_
 refine bI ?_
 refine l_end (n_then (c_ret ?_))
 refine ret_tmp2 rfl rfl rfl ?_
 exact ⟨_, _, rfl, ⟨gs, rfl, rfl⟩, hW⟩

set_option maxRecDepth 10000 in
/-- (headend/cover.node).sibling -/
theorem g_psibling (v : Nat) (hv : v < 128) : Gives Tryz.prog 55 [.int .i64 (v : Int)].toArray (.int .i64 ((sib v : Nat) : Int)) := by
 refine gives_of Tryz.func55 rfl (bs := [.int .i64 (v : Int), undef, undef, undef, undef]) rfl ?_
 intro w hW
 refine c_seq (c_reg ?_)
 refine bI ?_
 refine l_end (n_then (c_seq (c_reg ?_)))
 refine aI ?_
 refine l_val (r_xorS rfl rfl rfl hv) rfl rfl ?_
 refine bI ?_
 refine l_end (n_then (c_ret ?_))
 refine ret_tmp (v := .int .i64 ((sib v : Nat) : Int)) rfl ?_ ⟨rfl, hW.below⟩
 rfl

set_option maxRecDepth 10000 in
/-- headend/cover.Split -/
theorem g_SplitN (s : Sc) (v x : Nat) (hs : schB s = true) (hsx : subB s v x = true) (h1 : (membersN s v x (p2 s.d.toNat)).length ≠ 1) : GivesX Tryz.prog 107 [.agg [.int .u8 s.k, .int .i64 s.d, .int .i64 s.g, .int .u64 s.p, .int .u64 s.q, .int .u64 s.r].toArray, .agg [.int .i64 (v : Int), .int .i64 (x : Int)].toArray].toArray (fun _ => True) (fun u Bs => ∃ a c, u = .tuple #[.slice a 2 c, .int .i64 0] ∧ OwnSl 64 2 a 2 c (sl2 (splitV s v x)) Bs) := by
 refine givesX_of Tryz.func107 rfl (bs := [.agg [.int .u8 s.k, .int .i64 s.d, .int .i64 s.g, .int .u64 s.p, .int .u64 s.q, .int .u64 s.r].toArray, .agg [.int .i64 (v : Int), .int .i64 (x : Int)].toArray, undef, undef, undef, undef, undef, undef, undef, undef, undef, undef, undef, undef, undef, undef, undef, undef, undef, undef, undef, undef, undef, undef, undef, undef, undef, undef, undef, undef, undef, undef, undef, undef, undef, undef, undef, undef, undef, undef, undef, undef, undef, undef, undef, undef, undef, undef, undef, undef, undef, undef, undef, undef, undef, undef, undef, undef, undef, undef, undef, undef, undef, undef, undef, undef, undef, undef, undef, undef, undef, undef, undef, undef, undef, undef, undef, undef, undef, undef, undef, undef, undef, undef, undef, undef, undef, undef, undef, undef, undef, undef, undef, undef]) rfl ?_
 intro w hP hW
 obtain ⟨k1, k3, d0, d6, -⟩ := schB_iff.1 hs
 obtain ⟨hx1, hx2, hx3, hx4⟩ := sub_x d6 hsx
 obtain ⟨p1, p2', p3, p4⟩ := sub_parts hsx
 refine c_seq (c_reg ?_)
 refine xB hW ?_
 intro g1 W hW
 refine xB hW ?_
 intro g2 W hW
 refine bS ?_
 refine bI ?_
 refine l_end (n_then (c_seq (c_reg ?_)))
 refine dA hW 1 tyA26 ?_
 refine dA hW 0 tyA64 ?_
 refine l_buildSliceF hW (bsl33_1_0 _ _) rfl rfl rfl rfl ?_
 intro gb W hW
 refine l_callR hW (g_enter s (some ⟨gb, 0, none⟩) 1 1 [((v : Int), (x : Int))] hs (by simp)) en51 (RdB.one hW 0 rfl) rfl rfl rfl rfl ?_
 intro W hW
 obtain ⟨ee, hee⟩ : ∃ ee, ee = entE s [((v : Int), (x : Int))] := ⟨_, rfl⟩
 have he0 : ee = 0 := hee.trans ((entE_one s v x).trans (by rw [hsx]; rfl))
 rw [← hee]
 refine l_val (r_move (v := .tuple _) rfl rfl) rfl rfl ?_
 refine l_val (r_extract (v := .agg _) rfl rfl rfl) rfl rfl ?_
 refine l_val (r_extract (v := .int _ _) rfl rfl rfl) rfl rfl ?_
 refine l_alloc hW tyZ106 rfl rfl rfl ?_
 intro g3 W hW
 refine l_storeA hW 0 tyA106 rfl rfl rfl rfl rfl rfl rfl (entT_len _ _) (entT_one _ _) ?_
 intro W hW
 refine bI ?_
 refine l_end (n_then (c_seq (c_seq (c_reg ?_))))
 refine aI ?_
 refine l_val (r_neq rfl rfl rfl rfl) rfl rfl ?_
 refine l_split ?_ ?_
 ·intro hc1
  replace hc1 := of_decide_eq_true hc1
  omega
 ·intro hc1
  replace hc1 := of_decide_eq_false hc1
  have htt : entT s [((v : Int), (x : Int))] = [.int .u8 s.k, .int .i64 s.d, .int .i64 (strideN s.d : Int)] := entT_yes (by rw [← hee]; omega)
  replace hW := (show Cl _ (⟨_, entT s [((v : Int), (x : Int))], _⟩ :: _) _ from hW)
  rw [htt] at hW
  refine l_end (n_then ?_)
  refine c_false rfl ?_
  refine c_skip (n_then (c_seq (c_seq (c_reg ?_))))
  refine dA hW 0 tyA106 ?_
  refine dA hW 2 tyA64 ?_
  refine l_callX hW (g_pmembers s v x d0 d6 hx1 hx2 hx3 hx4) en89 trivial rfl rfl rfl rfl ?_
  rintro _ BM W ⟨am, cm, rfl, hOM⟩ hW
  refine l_val (r_lenSlice Tryz.underlying27 rfl rfl) rfl rfl ?_
  refine l_val (r_eqlN (n := 1) rfl rfl rfl rfl) rfl rfl ?_
  refine l_split ?_ ?_
  ·intro hc2
   replace hc2 := of_decide_eq_true hc2
   omega
  ·intro hc2
   replace hc2 := of_decide_eq_false hc2
   refine l_end (n_then ?_)
   refine c_false rfl ?_
   refine c_skip (n_then (c_seq (c_reg ?_)))
   refine l_val (r_assign (v := .func _ _ _) rfl rfl) rfl rfl ?_
   refine l_end (n_then (c_seq (c_block (c_seq (c_reg ?_)))))
   refine l_val (r_fieldAddr 0 Tryz.underlying106 rfl tyC5.size rfl rfl rfl) rfl rfl ?_
   refine dC hW 0 tyC5 ?_
   refine l_val (r_eql rfl rfl rfl rfl) rfl rfl ?_
   refine l_split ?_ ?_
   ·intro hc3
    replace hc3 := of_decide_eq_true hc3
    refine bB ?_
    refine l_end (n_then ?_)
    refine c_true rfl ?_
    refine c_seq (c_reg ?_)
    refine l_val (r_move (v := .func _ _ _) rfl rfl) rfl rfl ?_
    refine l_val (r_fieldAddr 0 Tryz.underlying64 rfl tyC3.size rfl rfl rfl) rfl rfl ?_
    refine dC hW 2 tyC3 ?_
    refine l_val (r_mulN (m := 2) rfl rfl rfl (by omega)) rfl rfl ?_
    refine l_val (r_fieldAddr 0 Tryz.underlying64 rfl tyC3.size rfl rfl rfl) rfl rfl ?_
    refine dC hW 2 tyC3 ?_
    refine l_val (r_mulN (m := 2) rfl rfl rfl (by omega)) rfl rfl ?_
    refine l_val (r_addN (n := 1) rfl rfl rfl (by omega)) rfl rfl ?_
    refine l_callVX hW (args := [.int .i64 ((2 * v : Nat) : Int), .int .i64 0, .int .i64 ((2 * v + 1 : Nat) : Int), .int .i64 0]) (cap := []) (g_Split1 _ _ _ _) en148 trivial rfl rfl rfl rfl rfl ?_
    rintro _ _ W ⟨gs, rfl, rfl⟩ hW
    refine l_val (r_extract (v := .slice _ _ _) rfl rfl rfl) rfl rfl ?_
    refine l_val (r_extract (v := .int _ _) rfl rfl rfl) rfl rfl ?_
    refine bS ?_
    refine bI ?_
    refine l_end (n_then (c_ret (r_block (r_then ?_))))
    refine ret_tmp2 rfl rfl rfl ?_
    have hsp := split_k1 (s := s) (v := v) (w := (x : Int)) (by omega)
    exact ⟨_, [_], rfl, ⟨_, _, rfl, by rw [hsp]; exact OwnSl.full rfl (by unfold maxLen; decide)⟩, hW.sub (List.sublist_append_right _ _)⟩
   ·intro hc3
    replace hc3 := of_decide_eq_false hc3
    refine bB ?_
    refine l_end (n_then ?_)
    refine c_false rfl ?_
    refine c_seq (c_reg ?_)
    refine l_val (r_fieldAddr 1 Tryz.underlying64 rfl tyC3.size rfl rfl rfl) rfl rfl ?_
    refine dC hW 2 tyC3 ?_
    refine l_val (r_eqlN (n := 0) rfl rfl rfl rfl) rfl rfl ?_
    refine l_split ?_ ?_
    ·intro hc4
     replace hc4 := of_decide_eq_true hc4
     refine bB ?_
     refine l_end (n_then ?_)
     refine c_true rfl ?_
     refine c_seq (c_reg ?_)
     refine l_val (r_move (v := .func _ _ _) rfl rfl) rfl rfl ?_
     refine l_callVX hW (args := [.int .i64 1, .int .i64 2, .int .i64 1, .int .i64 3]) (cap := []) (g_Split1 _ _ _ _) en148 trivial rfl rfl rfl rfl rfl ?_
     rintro _ _ W ⟨gs, rfl, rfl⟩ hW
     refine l_val (r_extract (v := .slice _ _ _) rfl rfl rfl) rfl rfl ?_
     refine l_val (r_extract (v := .int _ _) rfl rfl rfl) rfl rfl ?_
     refine bS ?_
     refine bI ?_
     refine l_end (n_then (c_ret (r_block (r_then ?_))))
     refine ret_tmp2 rfl rfl rfl ?_
     obtain rfl : x = 0 := by omega
     have hsp := (show splitV s v ((0 : Nat) : Int) = [(1, 2), (1, 3)] from split_w0 (s := s) (v := (v : Int)) (by omega))
     exact ⟨_, [_], rfl, ⟨_, _, rfl, by rw [hsp]; exact OwnSl.full rfl (by unfold maxLen; decide)⟩, hW.sub (List.sublist_append_right _ _)⟩
    ·intro hc4
     replace hc4 := of_decide_eq_false hc4
     obtain ⟨hwn, hne, hbe, -⟩ := p4 (by omega) (by omega)
     rw [Int.toNat_natCast, Int.toNat_natCast] at hbe
     have hlx := lev_le (v := x) (by omega)
     have hlv := (below_iff.1 hbe).1
     have hlt : lev v < lev x := Nat.lt_of_le_of_ne hlv fun e => by
      have h2 := (below_iff.1 hbe).2
      rw [e, Nat.sub_self] at h2
      exact hne (by rw [show x = v from h2])
     have hcl : sh x (lev x - lev v - 1) < 128 := Nat.lt_of_le_of_lt (sh_le _ _) (by omega)
     have hsl := (sib_all hcl).2.1
     refine bB ?_
     refine l_end (n_then ?_)
     refine c_false rfl ?_
     refine c_skip (n_block (n_then (c_seq ?_)))
     refine c_regY hW [] [.q, .q, .q, .q, .q, .q] [0, 1, 0, 4, 3, 31] (by kernel_rfl) (by kernel_rfl) ?_
     refine y_val (r_fieldAddr 0 Tryz.underlying64 rfl tyC3.size rfl rfl rfl) rfl rfl ?_
     refine y_loadC 2 tyC3 rfl rfl rfl rfl rfl rfl (by decide) ?_
     refine y_val (r_fieldAddr 1 Tryz.underlying64 rfl tyC3.size rfl rfl rfl) rfl rfl ?_
     refine y_loadC 2 tyC3 rfl rfl rfl rfl rfl rfl (by decide) ?_
     refine y_val (r_assign (v := .int _ _) rfl rfl) rfl rfl ?_
     refine y_val (r_assign (v := .int _ _) rfl rfl) rfl rfl ?_
     refine y_end ?_
     intro W hW
     refine n_then (c_seq (c_reg ?_))
     refine aI ?_
     refine aI ?_
     refine l_call hW (g_ptoward v x (by omega) (by omega) (by omega) (by omega) hlt) en110 rfl rfl rfl rfl ?_
     intro W hW
     refine bI ?_
     refine l_end (n_then (c_seq (c_seq (c_reg ?_))))
     refine aI ?_
     refine aI ?_
     refine l_val (r_eqlN rfl rfl rfl rfl) rfl rfl ?_
     refine l_split ?_ ?_
     ·intro hc5
      replace hc5 := of_decide_eq_true hc5
      refine l_end (n_then ?_)
      refine c_true rfl ?_
      refine c_seq (c_reg ?_)
      refine aI ?_
      refine l_call hW (g_psibling _ (by omega)) en55 rfl rfl rfl rfl ?_
      intro W hW
      refine bI ?_
      refine l_end (n_then (c_seq (c_reg ?_)))
      refine l_val (r_move (v := .func _ _ _) rfl rfl) rfl rfl ?_
      refine aI ?_
      refine aI ?_
      refine l_val (r_mulN (m := 2) rfl rfl rfl (by omega)) rfl rfl ?_
      refine aI ?_
      refine aI ?_
      refine l_val (r_mulN (m := 2) rfl rfl rfl (by omega)) rfl rfl ?_
      refine l_val (r_addN (n := 1) rfl rfl rfl (by omega)) rfl rfl ?_
      refine l_callVX hW (args := [.int .i64 ((sib (sh x (lev x - lev v - 1)) : Nat) : Int), .int .i64 ((2 * sib (sh x (lev x - lev v - 1)) : Nat) : Int), .int .i64 ((sib (sh x (lev x - lev v - 1)) : Nat) : Int), .int .i64 ((2 * sib (sh x (lev x - lev v - 1)) + 1 : Nat) : Int)]) (cap := []) (g_Split1 _ _ _ _) en148 trivial rfl rfl rfl rfl rfl ?_
      rintro _ _ W ⟨gs, rfl, rfl⟩ hW
      refine l_val (r_extract (v := .slice _ _ _) rfl rfl rfl) rfl rfl ?_
      refine l_val (r_extract (v := .int _ _) rfl rfl rfl) rfl rfl ?_
      refine bS ?_
      refine bI ?_
      refine l_end (n_then (c_ret (r_then ?_)))
      refine ret_tmp2 rfl rfl rfl ?_
      have hsp := split_s (s := s) (v := v) (x := x) (by omega) (by omega) (by omega)
      exact ⟨_, [_], rfl, ⟨_, _, rfl, by rw [hsp]; exact OwnSl.full rfl (by unfold maxLen; decide)⟩, hW.sub (List.sublist_append_right _ _)⟩
     ·intro hc5
      replace hc5 := of_decide_eq_false hc5
      refine l_end (n_then ?_)
      refine c_false rfl ?_
      refine c_skip (n_then (c_seq (c_seq (c_reg ?_))))
      refine dA hW 0 tyA106 ?_
      refine aI ?_
      refine aI ?_
      refine l_val (r_build (ps := [(0, .int _ _), (1, .int _ _)]) (bld64_0_1 _ _) rfl rfl) rfl rfl ?_
      refine l_call hW (g_psubset s _ _ d0 d6) en71 rfl rfl rfl rfl ?_
      intro W hW
      refine l_split ?_ ?_
      ·intro hc6
       refine l_val (r_not rfl rfl) rfl rfl ?_
       refine l_end (n_then ?_)
       refine c_false rfl ?_
       refine c_skip (n_then (c_seq (c_reg ?_)))
       refine l_val (r_move (v := .func _ _ _) rfl rfl) rfl rfl ?_
       refine l_val (r_fieldAddr 0 Tryz.underlying64 rfl tyC3.size rfl rfl rfl) rfl rfl ?_
       refine dC hW 2 tyC3 ?_
       refine aI ?_
       refine aI ?_
       refine l_val (r_fieldAddr 1 Tryz.underlying64 rfl tyC3.size rfl rfl rfl) rfl rfl ?_
       refine dC hW 2 tyC3 ?_
       refine l_callVX hW (args := [.int .i64 (v : Int), .int .i64 ((sh x (lev x - lev v - 1) : Nat) : Int), .int .i64 ((sh x (lev x - lev v - 1) : Nat) : Int), .int .i64 (x : Int)]) (cap := []) (g_Split1 _ _ _ _) en148 trivial rfl rfl rfl rfl rfl ?_
       rintro _ _ W ⟨gs, rfl, rfl⟩ hW
       refine l_val (r_extract (v := .slice _ _ _) rfl rfl rfl) rfl rfl ?_
       refine l_val (r_extract (v := .int _ _) rfl rfl rfl) rfl rfl ?_
       refine bS ?_
       refine bI ?_
       refine l_end (n_then (c_ret ?_))
       refine ret_tmp2 rfl rfl rfl ?_
       have hsp := split_c (s := s) (v := v) (x := x) (by omega) (by omega) (by omega) hc6
       exact ⟨_, [_], rfl, ⟨_, _, rfl, by rw [hsp]; exact OwnSl.full rfl (by unfold maxLen; decide)⟩, hW.sub (List.sublist_append_right _ _)⟩
      ·intro hc6
       refine l_val (r_not rfl rfl) rfl rfl ?_
       refine l_end (n_then ?_)
       refine c_true rfl ?_
       refine c_reg ?_
       refine dA hW 0 tyA106 ?_
       refine aI ?_
       refine aI ?_
       refine l_call hW (g_pcut s v x (by rcases Nat.lt_or_ge 1 x with h | h; exact h; rw [lev_one h] at hlt; omega) (by omega) hbe hlt) en56 rfl rfl rfl rfl ?_
       intro W hW
       refine bI ?_
       refine l_end (n_then (c_seq (c_reg ?_)))
       refine l_val (r_move (v := .func _ _ _) rfl rfl) rfl rfl ?_
       refine l_val (r_fieldAddr 0 Tryz.underlying64 rfl tyC3.size rfl rfl rfl) rfl rfl ?_
       refine dC hW 2 tyC3 ?_
       refine aI ?_
       refine aI ?_
       refine l_val (r_fieldAddr 1 Tryz.underlying64 rfl tyC3.size rfl rfl rfl) rfl rfl ?_
       refine dC hW 2 tyC3 ?_
       refine l_callVX hW (args := [.int .i64 (v : Int), .int .i64 ((bet s.d x (lev x - lev v - 1) : Nat) : Int), .int .i64 ((bet s.d x (lev x - lev v - 1) : Nat) : Int), .int .i64 (x : Int)]) (cap := []) (g_Split1 _ _ _ _) en148 trivial rfl rfl rfl rfl rfl ?_
       rintro _ _ W ⟨gs, rfl, rfl⟩ hW
       refine l_val (r_extract (v := .slice _ _ _) rfl rfl rfl) rfl rfl ?_
       refine l_val (r_extract (v := .int _ _) rfl rfl rfl) rfl rfl ?_
       refine bS ?_
       refine bI ?_
       refine l_end (n_then (c_ret ?_))
       refine ret_tmp2 rfl rfl rfl ?_
       have hsp := split_b (s := s) (v := v) (x := x) (by omega) (by omega) (by omega) hc6
       exact ⟨_, [_], rfl, ⟨_, _, rfl, by rw [hsp]; exact OwnSl.full rfl (by unfold maxLen; decide)⟩, hW.sub (List.sublist_append_right _ _)⟩

/-- Split, of whole numbers -/
theorem g_Split (s : Sc) (v x : Int) (hs : schB s = true) (hsx : subB s v x = true) (h1 : (membersN s v x (p2 s.d.toNat)).length ≠ 1) : GivesX Tryz.prog 107 [.agg [.int .u8 s.k, .int .i64 s.d, .int .i64 s.g, .int .u64 s.p, .int .u64 s.q, .int .u64 s.r].toArray, .agg [.int .i64 v, .int .i64 x].toArray].toArray (fun _ => True) (fun u Bs => ∃ a c, u = .tuple #[.slice a 2 c, .int .i64 0] ∧ OwnSl 64 2 a 2 c (sl2 (splitV s v x)) Bs) := by
 obtain ⟨hx1, hx2, hx3, hx4⟩ := sub_x (schB_iff.1 hs).2.2.2.1 hsx
 obtain ⟨v', rfl⟩ : ∃ n : Nat, v = n := ⟨v.toNat, by omega⟩
 obtain ⟨x', rfl⟩ : ∃ n : Nat, x = n := ⟨x.toNat, by omega⟩
 exact g_SplitN s v' x' hs hsx h1
end Go.Proofs.YtoegpalacppllaaGreat

/- Copies of elements of many cells, appended zeros where there is no room, an element replaced by two. No function of the program is in sight here. -/
namespace Go.Proofs.YtoegpalacppllaaGreat
open Go.RowKit Pl Tr Hn

/-- cells of a row in which an element is replaced, with room -/
theorem repl_in {cur news : List Value} {n i : Nat} (hn : news.length = 4) (hi : i + 1 < n) (hc : (n + 1) * 2 ≤ cur.length) :
    ((((cur.take ((i + 2) * 2) ++ ((cur.drop ((i + 1) * 2)).take ((n - (i + 1)) * 2)) ++ cur.drop ((i + 2) * 2 + (n - (i + 1)) * 2)).take (i * 2) ++ news ++ (cur.take ((i + 2) * 2) ++ ((cur.drop ((i + 1) * 2)).take ((n - (i + 1)) * 2)) ++ cur.drop ((i + 2) * 2 + (n - (i + 1)) * 2)).drop (i * 2 + 2 * 2))).take ((n + 1) * 2)) = (cur.take (n * 2)).take (i * 2) ++ (news ++ (cur.take (n * 2)).drop ((i + 1) * 2)) := by
  have hT : ((cur.drop ((i + 1) * 2)).take ((n - (i + 1)) * 2)).length = (n - (i + 1)) * 2 := by rw [List.length_take, List.length_drop]; omega
  have h1 : (cur.take ((i + 2) * 2)).length = i * 2 + 2 * 2 := by rw [List.length_take]; omega
  have e1 : (cur.take ((i + 2) * 2) ++ ((cur.drop ((i + 1) * 2)).take ((n - (i + 1)) * 2)) ++ cur.drop ((i + 2) * 2 + (n - (i + 1)) * 2)).take (i * 2) = cur.take (i * 2) := by
    rw [List.append_assoc, List.take_append_of_le_length (by omega), List.take_take]; congr 1; omega
  have e2 : (cur.take ((i + 2) * 2) ++ ((cur.drop ((i + 1) * 2)).take ((n - (i + 1)) * 2)) ++ cur.drop ((i + 2) * 2 + (n - (i + 1)) * 2)).drop (i * 2 + 2 * 2) = ((cur.drop ((i + 1) * 2)).take ((n - (i + 1)) * 2)) ++ cur.drop ((i + 2) * 2 + (n - (i + 1)) * 2) := by
    rw [List.append_assoc, ← h1, List.drop_left]
  rw [e1, e2, List.take_take, show min (i * 2) (n * 2) = i * 2 by omega, List.drop_take, show n * 2 - (i + 1) * 2 = (n - (i + 1)) * 2 by omega]
  have hA : (cur.take (i * 2)).length = i * 2 := by rw [List.length_take]; omega
  rw [show cur.take (i * 2) ++ news ++ (((cur.drop ((i + 1) * 2)).take ((n - (i + 1)) * 2)) ++ cur.drop ((i + 2) * 2 + (n - (i + 1)) * 2)) = (cur.take (i * 2) ++ (news ++ ((cur.drop ((i + 1) * 2)).take ((n - (i + 1)) * 2)))) ++ cur.drop ((i + 2) * 2 + (n - (i + 1)) * 2) by simp only [List.append_assoc]]
  exact List.take_left' (by simp only [List.length_append, hA, hn, hT]; omega)
/-- .. without room -/
theorem repl_out {cur curN news : List Value} {n i : Nat} (hn : news.length = 4) (hi : i + 1 < n) (hc : n * 2 ≤ cur.length) (hN : (n + 1) * 2 ≤ curN.length) (hA : curN.take (i * 2) = cur.take (i * 2)) :
    (((curN.take (i * 2) ++ news ++ curN.drop (i * 2 + 2 * 2)).take ((i + 2) * 2) ++ ((cur.drop ((i + 1) * 2)).take ((n - (i + 1)) * 2)) ++ (curN.take (i * 2) ++ news ++ curN.drop (i * 2 + 2 * 2)).drop ((i + 2) * 2 + (n - (i + 1)) * 2)).take ((n + 1) * 2)) = (cur.take (n * 2)).take (i * 2) ++ (news ++ (cur.take (n * 2)).drop ((i + 1) * 2)) := by
  have hT : ((cur.drop ((i + 1) * 2)).take ((n - (i + 1)) * 2)).length = (n - (i + 1)) * 2 := by rw [List.length_take, List.length_drop]; omega
  have hl : (curN.take (i * 2) ++ news).length = (i + 2) * 2 := by rw [List.length_append, List.length_take, hn]; omega
  have e1 : (curN.take (i * 2) ++ news ++ curN.drop (i * 2 + 2 * 2)).take ((i + 2) * 2) = curN.take (i * 2) ++ news := List.take_left' hl
  rw [e1, hA, List.take_take, show min (i * 2) (n * 2) = i * 2 by omega, List.drop_take, show n * 2 - (i + 1) * 2 = (n - (i + 1)) * 2 by omega]
  have hA2 : (cur.take (i * 2)).length = i * 2 := by rw [List.length_take]; omega
  rw [show cur.take (i * 2) ++ news ++ ((cur.drop ((i + 1) * 2)).take ((n - (i + 1)) * 2)) = cur.take (i * 2) ++ (news ++ ((cur.drop ((i + 1) * 2)).take ((n - (i + 1)) * 2))) by simp only [List.append_assoc]]
  exact List.take_left' (by simp only [List.length_append, hA2, hn, hT]; omega)
/-- the beginning of a slice -/
theorem OwnSl.cutTo {e : TypeId} {g n c i : Nat} {xs cur : List Value} (h : OwnSl e 2 (some ⟨g, 0, none⟩) n c xs [⟨g, cur, e⟩]) (hi : i ≤ n) : OwnSl e 2 (some ⟨g, 0, none⟩) i c (xs.take (i * 2)) [⟨g, cur, e⟩] := by
  have hl := h.1
  rcases h.2 with ⟨h1, _⟩ | ⟨g2, cur2, h1, h2, h3, h4, h5, h6⟩
  · cases h1
  · simp only [Option.some.injEq, Addr.mk.injEq, and_true, List.cons.injEq, Blk.mk.injEq] at h1 h2
    obtain ⟨rfl, rfl⟩ := h2
    refine ⟨by rw [List.length_take]; omega, .inr ⟨g, cur, rfl, rfl, by omega, h4, h5, ?_⟩⟩
    rw [← h6, List.take_take]; congr 1; omega

section
variable {P : Program} {ops : Array Oper} {Q : Exit → Act → World → Prop} {bs : List Value} {us : List (Nat × Value)} {ds : List Deferred} {w0 : Base} {W W' : World} {rest : List Oper} {o : Oper} {L Bs : List Blk} {d : Nat} {v : Value} {r : Option (Option Nat)} {m : Nat}
/-- the built-in copy of elements of many cells into a block of the call's own -/
theorem l_copyN (hW : Cl w0 L W) (p : Nat) {t t2 e sz bytes : Nat} (hE : TyE P t e sz bytes) {x y : Operand} {g i dn dc k c2 j : Nat} {ax : Addr} {cs news : List Value} {ty : TypeId} (hg : o.guard = none) (ho : o.op = .call { callee := .builtin .copy, args := #[x, y], argTypes := #[t, t2] })
    (hx : ev bs us x = .slice (some ⟨g, i, none⟩) dn dc) (hy : ev bs us y = .slice (some ax) k c2) (hd : o.dst = some d) (hp : L[p]? = some ⟨g, cs, ty⟩) (hr : ∀ j u, news[j]? = some u → W.cell? (ax.add j) = some u) (hl : news.length = j * sz) (hj : min k dn = j) (hfit : i + j * sz ≤ cs.length) (h1 : ∀ v ∈ news, v.oneCell' = true)
    (h : ∀ W', Cl w0 (L.set p ⟨g, cs.take i ++ news ++ cs.drop (i + j * sz), ty⟩) W' → LW r m P ops Q rest (fr bs ((d, .int .i64 (j : Int)) :: us) ds) W') : LW r m P ops Q (o :: rest) (fr bs us ds) W := by
  obtain ⟨inf, z, hi, hz, hsz, hby, hzs⟩ := hE.info
  subst hsz
  have hst := splice_setCells (P := P) (hW.at p hp) (i := i) (news := news) (by rw [hl]; exact hfit) h1
  rw [hl] at hst
  have hload : (Builtin.firstCells inf.size j (.slice (some ax) k c2)).run P W = .ok news.toArray W := by
    have hl2 := run_loadCells_list (P := P) W ax news hr
    rw [hl] at hl2
    simp [Builtin.firstCells, hl2]
  refine l_run hg ?_ hd (h _ (hW.setRow p hp _))
  have hmin : Nat.min k dn = j := hj
  unfold execOp
  simp [ho, resolve, invoke, builtin, hx, hy, Builtin.copy_, run_underlying hE.u, Builtin.lenOf, hmin, sizeOf, typeInfo, hi, hload, hst, goInt]
/-- zero values are appended to what has no room for them -/
theorem l_appendZO {t tn e sz bytes n c k : Nat} (hE : TyE P t e sz bytes) (hn : P.underlying tn = some (.int .i64)) (hW : Cl w0 L W) (p : Nat) {g : Nat} {cur : List Value} {ty : TypeId} (hp : L[p]? = some ⟨g, cur, ty⟩) {s x : Operand} (hk : 0 < k) (hfull : c < n + k) (hnl : n * sz ≤ cur.length) (hm : n + k ≤ 4611686018427387904) (hfit : (n + k) * bytes ≤ 140737488355328) (hg : o.guard = none) (ho : o.op = .call { callee := .builtin .append, args := #[s, x], argTypes := #[t, tn] }) (hs : ev bs us s = .slice (some ⟨g, 0, none⟩) n c) (hx : ev bs us x = .int .i64 (k : Int)) (hd : o.dst = some d)
    (h : ∀ gN cN curN W', n + k ≤ cN → cN ≤ maxLen → curN.length = cN * sz → curN.take (n * sz) = cur.take (n * sz) → Cl w0 (⟨gN, curN, e⟩ :: L) W' → LW r m P ops Q rest (fr bs ((d, .slice (some ⟨gN, 0, none⟩) (n + k) cN) :: us) ds) W') : LW r m P ops Q (o :: rest) (fr bs us ds) W := by
  obtain ⟨i, z, hi, hz, hsz, hby, hzs⟩ := hE.info
  have hpos := hE.pos
  subst hsz hby
  have hgW := hW.drew.at p hp
  simp only at hgW
  have hol : (cur.take (n * i.size)).length = n * i.size := by rw [List.length_take]; omega
  have hold : (Builtin.firstCells i.size n (.slice (some ⟨g, 0, none⟩) n c)).run P W.drew = .ok (cur.take (n * i.size)).toArray W.drew := by
    have := run_loadCells_list (P := P) W.drew ⟨g, 0, none⟩ (cur.take (n * i.size)) (fun j u hu => by
      rw [cells_of hgW]
      rw [List.getElem?_take] at hu
      split at hu
      · simpa using hu
      · cases hu)
    rw [hol] at this
    simp [Builtin.firstCells, this]
  have hrun := Go.Lib.run_append_grow_zeros W t tn o.type e i z .i64 .i64 hE.u hn hi hz (some ⟨g, 0, none⟩) n c (cur.take (n * i.size)) hold k hk hpos hfull (by omega) (by have := Nat.mul_le_mul_right i.bytes (show k ≤ n + k by omega); omega) (growslice_fits hfull hfit)
  have hG := grownCap_ge W (n + k) c e
  have hG2 := grownCap_le_maxLen W (n + k) c e (by unfold maxLen; omega)
  have hrun2 : ∀ v W', (Builtin.append_ #[t, tn] o.type #[.slice (some ⟨g, 0, none⟩) n c, .int .i64 (k : Int)]).run P W = .ok v W' → (execOp (ev bs us) o).run P W = .ok (.value v) W' := fun v W' hr => by
    unfold execOp
    simp [ho, resolve, invoke, builtin, hs, hx, hr]
  refine l_run hg (hrun2 _ _ hrun) hd ?_
  have hal := hW.drew.alloc (((cur.take (n * i.size)).toArray ++ Builtin.zeroCells z.cells k ++ Builtin.zeroCells z.cells (grownCap W (n + k) c e - (n + k))) : Array Value).toList e
  rw [Array.toArray_toList] at hal
  refine h W.heap.size _ _ _ hG hG2 ?_ ?_ hal
  · have h3 : (n + k) * i.size + (grownCap W (n + k) c e - (n + k)) * i.size = grownCap W (n + k) c e * i.size := by rw [← Nat.add_mul]; congr 1; omega
    rw [Nat.add_mul] at h3
    simp only [Array.length_toList, Array.size_append, List.size_toArray, hol, size_zeroCells, hzs]
    omega
  · simp only [Array.toList_append, List.append_assoc]
    exact List.take_left' hol
/-- a call of a function that the model itself answers -/
theorem l_callE (hW : Cl w0 L W) {f : FuncId} {xs : Array Operand} {ts : Array TypeId} {args : List Value} (hc : (callFunc f args.toArray).run P W = .ok (.value v) W) (hg : o.guard = none) (ho : o.op = .call { callee := .value (.func f), args := xs, argTypes := ts }) (ha : xs.toList.map (ev bs us) = args) (hd : o.dst = some d)
    (h : Cl w0 L W → LW r m P ops Q rest (fr bs ((d, v) :: us) ds) W) : LW r m P ops Q (o :: rest) (fr bs us ds) W := by
  refine l_run hg ?_ hd (h hW)
  have e : xs.map (ev bs us) = args.toArray := by subst ha; apply Array.ext'; simp only [Array.toList_map]
  unfold execOp
  have e2 : (#[] : Array Value) ++ args.toArray ++ #[] = args.toArray := by simp
  simp only [ho, resolve, e, ev, Deferred.ofValue, Sem.run_bind, Sem.run_pure, Result.andThen_ok, invoke, e2]
  exact hc
theorem apart_run {t e sz tR : Nat} (ht : P.underlying t = some (.slice e)) (hz : ∀ w, (sizeOf e).run P w = .ok sz w) (hW : Cl w0 L W) {p q g gs i la ca lb cb : Nat} {cs cs2 : List Value} {ty ty2 : TypeId} (hpq : q ≠ p) (hp : L[p]? = some ⟨g, cs, ty⟩) (hq : L[q]? = some ⟨gs, cs2, ty2⟩) (hne : cs2 ≠ []) :
    (Extern.SlicesOverlaps.overlaps #[t, t] #[tR] #[.slice (some ⟨g, i, none⟩) la ca, .slice (some ⟨gs, 0, none⟩) lb cb]).run P W = .ok (.bool false) W := by
  have h1 := hW.at p hp
  have h2 := hW.at q hq
  simp only at h1 h2
  refine Go.Lib.run_overlaps_apart W t tR e ht sz hz ⟨g, i, none⟩ ⟨gs, 0, none⟩ la ca lb cb (fun e => apart_at hW.apart hp hq hpq e.symm) ty ty2 cs.length cs2.length ?_ ?_ ?_ ?_ ?_
  · simp [World.shape?, h1]
  · simp [World.shape?, h2]
  · exact fun e => hne (List.eq_nil_of_length_eq_zero e)
  · simp [World.frozen?, h1]
  · simp [World.frozen?, h1]
variable {a : Act}
theorem c_scope {m : Nat} {c : Code} (h : CW none m P c (Exit.noGoto Q) a W) : CW none m P (Code.scope c) Q a W := wp_scope_straight h
theorem c_label {m l : Nat} (h : Q .normal a W) : CW none m P (Code.label l) Q a W := wp_label h
theorem n_scope (h : Q .normal a W) : Exit.noGoto Q .normal a W := h
section
variable {S : List Nat} {ks : List Kd} {ms : List Mk} {V : List (List Value)} {R : Act → St → Prop} {T : List Oper → Act → St → Prop}
/-- a call that makes memory of its own and looks at what another maker has made, and at what is there -/
theorem y_callXs (i j : Nat) {f : FuncId} {xs : Array Operand} {ts : Array TypeId} {X : Value → List Blk → Prop} {z zj : List Value} {kj : Mk} (he : Enters P f)
    (hk : ms[i]? = some ⟨d, fun _ => X⟩) (hV : V[i]? = some z) (hkj : ms[j]? = some kj) (hVj : V[j]? = some zj)
    (hgv : ∀ u Bs L2, Sim S L L2 → kj.X zj u Bs → ∃ args Pre, GivesX P f (List.toArray args) Pre X ∧ (∀ w, Cl w0 (L2 ++ Bs) w → Pre w) ∧ xs.toList.map (ev bs ((kj.d, u) :: us)) = args) (ho : o.op = .call { callee := .value (.func f), args := xs, argTypes := ts })
    (h : lx P ops w0 S ms R T ks rest (fr bs us ds) (L, V)) : lx P ops w0 S ms R T (.mkd i j :: ks) (o :: rest) (fr bs us ds) (L, V) :=
  y_mkd i j hk hV hkj hVj (fun u Bs L2 hs hx w hC => by
    obtain ⟨args, Pre, g, hp, ha⟩ := hgv u Bs L2 hs hx
    refine .inr ⟨f, args.toArray, run_call he ho ha w, ?_⟩
    exact (g w (hp w hC)).mono fun e w' ⟨v, Bs', he, hx, hc⟩ => ⟨v, he, Bs', hx, hC.beside hc⟩) h
/-- loads of what is known of all worlds in which the blocks lie -/
theorem y_loadR {t : TypeId} (ht : TyC P t) {x : Operand} {b i : Nat} (hc : ∀ L2 w, Sim S L L2 → Cl w0 L2 w → w.cell? ⟨b, i, none⟩ = some v) (hw : Region.wanted o (yielded ops (fr bs us ds).tmps) = true) (ho : o.op = .load t x) (hx : ev bs us x = .pointer (some ⟨b, i, none⟩)) (hd : o.dst = some d)
    (h : lx P ops w0 S ms R T ks rest (fr bs ((d, v) :: us) ds) (L, V)) : lx P ops w0 S ms R T (.q :: ks) (o :: rest) (fr bs us ds) (L, V) :=
  ⟨v, (L, V), ⟨fun L2 hs => yields_run hw fun w hC => by
    rw [eval_ev]
    have hc' := hc L2 w hs hC
    unfold execOp
    simp [ho, hx, Instr.loadAt, Instr.sureAddr, loadVar, ht.agg w, hc'], rfl⟩, by simp only [putK, hd, put_st]; exact h⟩
theorem y_loadR2 {t : TypeId} (ht : TyA P t 2) {x : Operand} {b i : Nat} {u0 u1 : Value} (hc : ∀ L2 w, Sim S L L2 → Cl w0 L2 w → w.cell? ⟨b, i + 0, none⟩ = some u0 ∧ w.cell? ⟨b, i + 1, none⟩ = some u1) (hw : Region.wanted o (yielded ops (fr bs us ds).tmps) = true) (ho : o.op = .load t x) (hx : ev bs us x = .pointer (some ⟨b, i, none⟩)) (hd : o.dst = some d)
    (h : lx P ops w0 S ms R T ks rest (fr bs ((d, .agg [u0, u1].toArray) :: us) ds) (L, V)) : lx P ops w0 S ms R T (.q :: ks) (o :: rest) (fr bs us ds) (L, V) :=
  ⟨.agg [u0, u1].toArray, (L, V), ⟨fun L2 hs => yields_run hw fun w hC => by
    rw [eval_ev]
    obtain ⟨h0, h1⟩ := hc L2 w hs hC
    have hl : (loadCells ⟨b, i, none⟩ [u0, u1].length).run P w = .ok [u0, u1].toArray w := run_loadCells_list (P := P) w ⟨b, i, none⟩ [u0, u1] (fun j v hv => by
      rw [Addr.add_lit]
      match j with
      | 0 => simp only [List.getElem?_cons_zero, Option.some.injEq] at hv; subst hv; exact h0
      | 1 => simp only [List.getElem?_cons_succ, List.getElem?_cons_zero, Option.some.injEq] at hv; subst hv; exact h1
      | j + 2 => simp at hv)
    unfold execOp
    simp only [ho, hx, Instr.loadAt, Instr.sureAddr, Sem.run_bind, Sem.run_pure, Result.andThen_ok]
    simp only [List.length_cons, List.length_nil] at hl
    simp [loadVar, ht.agg w, ht.size w, hl], rfl⟩, by simp only [putK, hd, put_st]; exact h⟩
end
theorem RdG.cell {w : World} {b o n c i : Nat} {cs : List Sl} {gs : List (List Int)} {s : Sl} (k : RdG w ⟨some ⟨b, o, none⟩, n, c⟩ cs gs) (hs : cs[i]? = some s) : w.cell? ⟨b, o + i, none⟩ = some s.v := by
  obtain ⟨b', i', ha, hc⟩ := k.rd.rd i s.v (by rw [List.getElem?_map, hs]; rfl)
  simp only [Option.some.injEq, Addr.mk.injEq, and_true] at ha
  obtain ⟨rfl, rfl⟩ := ha
  exact hc
theorem RdB.cells {w : World} {b i n c j : Nat} {l : List (Int × Int)} (k : RdB w ⟨some ⟨b, i, none⟩, n, c⟩ l) (hj : j < l.length) : w.cell? ⟨b, i + j * 2 + 0, none⟩ = some (IV (qn l j)) ∧ w.cell? ⟨b, i + j * 2 + 1, none⟩ = some (IV (qm l j)) := by
  obtain ⟨b', i', ha, hc⟩ := k.ptr (by omega)
  simp only [Option.some.injEq, Addr.mk.injEq, and_true] at ha
  obtain ⟨rfl, rfl⟩ := ha
  exact hc j hj
/-- a tracer at work -/
structure TrP (e : TypeId) (N : Nat) (b0 : Bo) (tot : List Int) (t0 : Ts) (z : TrS) : Prop where
  tin : Tin N b0 tot z.t
  eq : traced N t0 = traced N z.t
  nm : NewI z.n2 z.t.nm z.bn
  ls : OwnSl e 2 z.la z.t.l.length z.lc (sl2 z.t.l) z.bl
theorem pickF {b : Base} {x : Blk} {A B C D E : List Blk} (h : Cl b ([x] ++ ((((A ++ B) ++ C) ++ D) ++ E)) W) : Cl b ((x :: (B ++ C)) ++ A) W := h.pick (D ++ E) (by classical exact List.perm_iff_count.2 fun x => by simp only [List.count_append, List.count_cons, List.count_nil]; omega)
theorem pickI {b : Base} {X A B : List Blk} (h : Cl b ((X ++ B) ++ A) W) : Cl b (((X ++ A) ++ []) ++ B) W := h.perm (by classical exact List.perm_iff_count.2 fun x => by simp only [List.count_append, List.count_nil]; omega)
theorem pickM {b : Base} {X G M : List Blk} (h : Cl b (M ++ (G ++ X)) W) : Cl b (X ++ (G ++ M)) W := h.perm (by classical exact List.perm_iff_count.2 fun x => by simp only [List.count_append]; omega)
/-- the partition's row ahead, behind a naming -/
theorem pickA {b : Base} {X A B C D E G M : List Blk} (h : Cl b ((X ++ ((((A ++ B) ++ C) ++ D) ++ E)) ++ (G ++ M)) W) : Cl b (C ++ (X ++ (A ++ M))) W := h.pick (B ++ (D ++ (E ++ G))) (by classical exact List.perm_iff_count.2 fun x => by simp only [List.count_append]; omega)
/-- .. behind a split -/
theorem pickB {b : Base} {X A B C D E G : List Blk} (h : Cl b (G ++ (X ++ ((((A ++ B) ++ C) ++ D) ++ E))) W) : Cl b (C ++ (X ++ ((A ++ B) ++ G))) W := h.pick (D ++ E) (by classical exact List.perm_iff_count.2 fun x => by simp only [List.count_append]; omega)
theorem pickC {b : Base} {X A B C G : List Blk} (h : Cl b ((X ++ ((A ++ B) ++ G)) ++ C) W) : Cl b (((X ++ A) ++ B) ++ C) W := h.pick G (by classical exact List.perm_iff_count.2 fun x => by simp only [List.count_append]; omega)
end
end Go.Proofs.YtoegpalacppllaaGreat

/- A subset less, or two in its place, by the library. -/
namespace Go.Proofs.YtoegpalacppllaaGreat
open Go.RowKit Pl
open Tr Hn
set_option maxRecDepth 10000 in
/-- slices.Delete[[]headend/api.Subset,headend/api.Subset] -/
theorem g_DeleteB (g n c i : Nat) (cur xs : List Value) (hO : OwnSl 64 2 (some ⟨g, 0, none⟩) n c xs [⟨g, cur, 64⟩]) (hi : i < n) (hone : ∀ v ∈ xs, v.oneCell' = true) : GivesS Tryz.prog 106 [.slice (some ⟨g, 0, none⟩) n c, .int .i64 (i : Int), .int .i64 ((i + 1 : Nat) : Int)].toArray (fun _ _ => True) [⟨g, cur, 64⟩] (fun v B => v = .slice (some ⟨g, 0, none⟩) (n - 1) c ∧ OwnSl 64 2 (some ⟨g, 0, none⟩) (n - 1) c (xs.take (i * 2) ++ xs.drop ((i + 1) * 2)) B) := by
 refine givesS_of Tryz.func106 rfl (bs := [.slice (some ⟨g, 0, none⟩) n c, .int .i64 (i : Int), .int .i64 ((i + 1 : Nat) : Int), undef, undef, undef, undef, undef, undef, undef, undef, undef, undef, undef, undef, undef, undef, undef, undef, undef, undef, undef, undef, undef, undef, undef, undef, undef, undef, undef, undef, undef, undef]) rfl ?_
 intro b L w hP hW
 obtain ⟨hnc, hcm, hcl, hct⟩ : n ≤ c ∧ c ≤ maxLen ∧ cur.length = c * 2 ∧ cur.take (n * 2) = xs := by
  rcases hO.2 with ⟨h, _⟩ | ⟨g2, cur2, h1, h2, h3⟩
  ·cases h
  ·simp only [Option.some.injEq, Addr.mk.injEq, and_true, List.cons.injEq, Blk.mk.injEq] at h1 h2
   obtain ⟨rfl, rfl⟩ := h2
   exact h3
 obtain ⟨j, hj⟩ : ∃ j, (if c = i + 1 then 0 else 0 + (i + 1) * 2) = j := ⟨_, rfl⟩
 have hj2 : n - (i + 1) = 0 ∨ j = (i + 1) * 2 := by
  by_cases hc : c = i + 1
  ·exact .inl (by omega)
  ·rw [if_neg hc] at hj; exact .inr (by omega)
 have hxl := congrArg List.length hct
 rw [List.length_take] at hxl
 refine c_seq (c_reg ?_)
 refine bS ?_
 refine l_end (n_then (c_seq (c_reg ?_)))
 refine aS ?_
 refine aI ?_
 refine aI ?_
 refine aS ?_
 refine l_val (r_lenSlice Tryz.underlying33 rfl rfl) rfl rfl ?_
 refine l_val (r_slice3 (l := i) (h := i + 1) (q := n) Tryz.underlying33 tyA64.size rfl rfl rfl rfl rfl (by omega) (by omega) (by omega) rfl) rfl rfl ?_
 refine l_end (n_then (c_seq (c_seq (c_reg ?_))))
 refine aI ?_
 refine aI ?_
 refine l_val (r_eqlN (b := false) rfl rfl rfl (decide_eq_false (by omega))) rfl rfl ?_
 refine l_end (n_then ?_)
 refine c_false rfl ?_
 refine c_skip (n_then (c_seq (c_reg ?_)))
 refine aS ?_
 refine l_val (r_lenSlice Tryz.underlying33 rfl rfl) rfl rfl ?_
 refine bI ?_
 refine l_end (n_then (c_seq ?_))
 refine c_regM hW [] [.q, .q, .q, .q, .q, .q, .tail, .tail] [] [] [] [0, 0, 3, 0, 0, 24, 63, 127] (by kernel_rfl) (by kernel_rfl) rfl (by kernel_rfl) ?_
 refine yS ?_
 refine yI ?_
 refine y_val (r_sliceToN (h := i) Tryz.underlying33 tyA64.size rfl rfl rfl (by omega)) rfl rfl ?_
 refine yS ?_
 refine yI ?_
 refine y_val (r_sliceFromN (l := i + 1) Tryz.underlying33 tyA64.size rfl rfl rfl (by omega) hj) rfl rfl ?_
 refine y_tail ?_
 intro W hW
 refine l_appendIn tyE33 (show Cl _ (_ :: _) _ from hW) rfl rfl rfl rfl rfl (by omega) hcl (by rcases hj2 with h | h <;> omega) (fun u hu => hone u ?_) ?_
 ·rw [← hct]
  rcases hj2 with h | h
  ·rw [h] at hu; simp at hu
  ·subst h
   have hd := List.drop_take (i := (i + 1) * 2) (j := n * 2) (l := cur)
   rw [show n * 2 - (i + 1) * 2 = (n - (i + 1)) * 2 by omega] at hd
   rw [← hd] at hu
   exact List.mem_of_mem_drop hu
 intro W hW
 refine bS ?_
 refine l_end (n_then (c_seq (c_reg ?_)))
 refine aS ?_
 refine aS ?_
 refine l_val (r_lenSlice Tryz.underlying33 rfl rfl) rfl rfl ?_
 refine aI ?_
 refine l_val (r_sliceN (l := i + (n - (i + 1))) (h := n) (j := (i + (n - (i + 1))) * 2) Tryz.underlying33 tyA64.size rfl rfl rfl rfl (by omega) (by omega) (by rw [if_neg (by omega)]; omega)) rfl rfl ?_
 refine l_clear (sz := 2) (z := .agg z64.toArray) Tryz.underlying33 tyZ64 rfl (by simp [Value.cells, Value.oneCell']) (by decide) (show Cl _ (_ :: _) _ from hW) rfl rfl rfl rfl (by omega) (by simp only [List.length_append, List.length_take, List.length_drop]; omega) ?_
 intro zs W hzs hW
 refine l_end (n_then (c_seq (c_reg ?_)))
 refine aS ?_
 refine bS ?_
 refine l_end (n_then (c_ret ?_))
 refine ret_tmp (v := .slice _ _ _) rfl rfl ?_
 obtain ⟨hc1, hc2⟩ := del_cells hcl hnc hi hct hj2 hzs
 refine ⟨_, [_], rfl, ⟨congrArg (fun k => Value.slice (some ⟨g, 0, none⟩) k c) (by omega), ?_, .inr ⟨g, _, rfl, rfl, by omega, hcm, hc1, hc2⟩⟩, hW⟩
 rw [List.length_append, List.length_take, List.length_drop]; omega

theorem mem_mid {cur : List Value} {n i : Nat} {u : Value} (hi : i < n) (h : u ∈ (cur.drop ((i + 1) * 2)).take ((n - (i + 1)) * 2)) : u ∈ cur.take (n * 2) := by
 have hd := List.drop_take (i := (i + 1) * 2) (j := n * 2) (l := cur)
 rw [show n * 2 - (i + 1) * 2 = (n - (i + 1)) * 2 by omega] at hd
 rw [← hd] at h
 exact List.mem_of_mem_drop h
theorem get_mid {cur : List Value} {k m j : Nat} {u : Value} (h : ((cur.drop k).take m)[j]? = some u) : cur[k + j]? = some u := by
 rw [List.getElem?_take] at h
 split at h
 ·rwa [List.getElem?_drop] at h
 ·cases h
set_option maxRecDepth 10000 in
/-- slices.Replace[[]headend/api.Subset,headend/api.Subset] -/
theorem g_ReplaceB (g n c i gs cS : Nat) (cur xs curS news : List Value) (hO : OwnSl 64 2 (some ⟨g, 0, none⟩) n c xs [⟨g, cur, 64⟩]) (hi : i < n) (hone : ∀ v ∈ xs, v.oneCell' = true) (hS : curS.take 4 = news) (hSl : news.length = 4) (hone2 : ∀ v ∈ news, v.oneCell' = true) (hn : n ≤ 100) : GivesS Tryz.prog 108 [.slice (some ⟨g, 0, none⟩) n c, .int .i64 (i : Int), .int .i64 ((i + 1 : Nat) : Int), .slice (some ⟨gs, 0, none⟩) 2 cS].toArray (fun _ L => (⟨gs, curS, 64⟩ : Blk) ∈ L) [⟨g, cur, 64⟩] (fun v B => ∃ a c2, v = .slice a (n + 1) c2 ∧ OwnSl 64 2 a (n + 1) c2 (xs.take (i * 2) ++ (news ++ xs.drop ((i + 1) * 2))) B) := by
 refine givesS_of Tryz.func108 rfl (bs := [.slice (some ⟨g, 0, none⟩) n c, .int .i64 (i : Int), .int .i64 ((i + 1 : Nat) : Int), .slice (some ⟨gs, 0, none⟩) 2 cS, undef, undef, undef, undef, undef, undef, undef, undef, undef, undef, undef, undef, undef, undef, undef, undef, undef, undef, undef, undef, undef, undef, undef, undef, undef, undef, undef, undef, undef, undef, undef, undef, undef, undef, undef, undef, undef, undef, undef, undef, undef, undef, undef, undef, undef, undef, undef, undef, undef, undef, undef, undef, undef, undef, undef, undef, undef, undef, undef, undef, undef, undef, undef, undef, undef, undef, undef, undef, undef, undef, undef, undef, undef, undef, undef, undef, undef, undef, undef, undef, undef, undef, undef, undef, undef, undef, undef, undef, undef, undef, undef, undef, undef, undef, undef, undef, undef, undef, undef, undef, undef, undef, undef, undef, undef, undef, undef, undef, undef, undef, undef, undef, undef, undef, undef, undef, undef, undef, undef, undef, undef, undef, undef, undef, undef, undef, undef, undef, undef, undef, undef, undef, undef, undef, undef, undef, undef, undef, undef, undef, undef, undef, undef, undef, undef, undef, undef, undef, undef, undef, undef, undef, undef, undef, undef, undef, undef, undef, undef, undef, undef, undef, undef, undef, undef, undef, undef, undef, undef, undef, undef, undef, undef, undef, undef, undef, undef, undef, undef, undef, undef, undef, undef, undef, undef, undef, undef, undef, undef, undef, undef, undef, undef, undef, undef, undef, undef, undef, undef, undef, undef, undef, undef, undef, undef, undef, undef, undef, undef, undef, undef, undef, undef, undef, undef, undef, undef, undef, undef, undef]) rfl ?_
 intro b L w hP hW
 obtain ⟨hnc, hcm, hcl, hct⟩ : n ≤ c ∧ c ≤ maxLen ∧ cur.length = c * 2 ∧ cur.take (n * 2) = xs := by
  rcases hO.2 with ⟨h, _⟩ | ⟨g2, cur2, h1, h2, h3⟩
  ·cases h
  ·simp only [Option.some.injEq, Addr.mk.injEq, and_true, List.cons.injEq, Blk.mk.injEq] at h1 h2
   obtain ⟨rfl, rfl⟩ := h2
   exact h3
 have hxl := hO.1
 have hnS : curS ≠ [] := fun e => by rw [e] at hS; rw [← hS] at hSl; simp at hSl
 obtain ⟨pS, hpS⟩ := List.getElem?_of_mem hP
 refine c_seq (c_reg ?_)
 refine bS ?_
 refine l_end (n_then (c_seq (c_reg ?_)))
 refine aS ?_
 refine aI ?_
 refine aI ?_
 refine l_val (r_sliceN (l := i) (h := i + 1) (j := i * 2) Tryz.underlying33 tyA64.size rfl rfl rfl rfl (by omega) (by omega) (by rw [if_neg (by omega)]; omega)) rfl rfl ?_
 refine l_end (n_then (c_seq (c_seq (c_reg ?_))))
 refine aI ?_
 refine aI ?_
 refine l_val (r_eqlN (b := false) rfl rfl rfl (decide_eq_false (by omega))) rfl rfl ?_
 refine l_end (n_then ?_)
 refine c_false rfl ?_
 refine c_skip (n_then (c_seq (c_seq (c_reg ?_))))
 refine aI ?_
 refine aS ?_
 refine l_val (r_lenSlice Tryz.underlying33 rfl rfl) rfl rfl ?_
 refine l_val (r_eqlN rfl rfl rfl rfl) rfl rfl ?_
 refine l_split ?_ ?_
 ·intro hc1
  replace hc1 := of_decide_eq_true hc1
  refine l_end (n_then ?_)
  refine c_true rfl ?_
  refine c_seq (c_reg ?_)
  refine aS ?_
  refine aI ?_
  refine l_val (r_sliceToN (h := i) Tryz.underlying33 tyA64.size rfl rfl rfl (by omega)) rfl rfl ?_
  refine aS ?_
  refine l_append tyE33 (L := L) (hO.cutTo (i := i) (by omega)) (show Cl _ (L ++ [_]) _ from (show Cl _ ([_] ++ L) _ from hW).perm List.perm_append_comm) (news := news) (N := n + 1) (by omega) rfl rfl rfl rfl rfl (by omega) (fun j u hu => by rw [cells_of (hW.at (pS + 1) hpS), Nat.zero_add]; exact take_get hS hu) hone2 (by unfold maxLen; omega) (by omega) ?_
  intro a1 c1 Bs1 W hO1 hW
  refine bS ?_
  refine l_end (n_then (c_seq (c_seq (c_reg ?_))))
  refine aS ?_
  refine l_val (r_lenSlice Tryz.underlying33 rfl rfl) rfl rfl ?_
  refine aS ?_
  refine l_val (r_lenSlice Tryz.underlying33 rfl rfl) rfl rfl ?_
  refine l_val (r_lssN (b := false) rfl rfl rfl (decide_eq_false (by omega))) rfl rfl ?_
  refine l_end (n_then ?_)
  refine c_false rfl ?_
  refine c_skip (n_then (c_seq (c_reg ?_)))
  refine aS ?_
  refine bS ?_
  refine l_end (n_then (c_ret (r_then ?_)))
  refine ret_tmp (v := .slice _ _ _) rfl rfl ?_
  exact ⟨_, Bs1, rfl, ⟨a1, c1, rfl, hO1.castx rfl (by rw [List.drop_of_length_le (l := xs) (by omega), List.append_nil])⟩, hW.perm List.perm_append_comm⟩
 ·intro hc1
  replace hc1 := of_decide_eq_false hc1
  refine l_end (n_then ?_)
  refine c_false rfl ?_
  refine c_skip (n_then (c_seq ?_))
  refine c_regY hW [] [.q, .q, .q, .q, .q, .q, .q, .q, .q, .q, .q, .q, .q] [0, 0, 3, 7, 0, 16, 63, 0, 0, 384, 896, 2047, 4095] (by kernel_rfl) (by kernel_rfl) ?_
  refine yS ?_
  refine yI ?_
  refine y_val (r_sliceToN (h := i) Tryz.underlying33 tyA64.size rfl rfl rfl (by omega)) rfl rfl ?_
  refine y_val (r_lenSlice Tryz.underlying33 rfl rfl) rfl rfl ?_
  refine yS ?_
  refine y_val (r_lenSlice Tryz.underlying33 rfl rfl) rfl rfl ?_
  refine y_val (r_addN rfl rfl rfl (by omega)) rfl rfl ?_
  refine yS ?_
  refine yI ?_
  refine y_val (r_sliceFromN (l := i + 1) (j := (i + 1) * 2) Tryz.underlying33 tyA64.size rfl rfl rfl (by omega) (by rw [if_neg (by omega)]; omega)) rfl rfl ?_
  refine y_val (r_lenSlice Tryz.underlying33 rfl rfl) rfl rfl ?_
  refine y_val (r_addN rfl rfl rfl (by omega)) rfl rfl ?_
  refine y_val (r_assign (v := .int _ _) rfl rfl) rfl rfl ?_
  refine y_end ?_
  intro W hW
  refine n_then (c_seq (c_seq (c_reg ?_)))
  refine aI ?_
  refine aS ?_
  refine l_val (r_cap Tryz.underlying33 rfl rfl) rfl rfl ?_
  refine l_val (r_gtrN rfl rfl rfl rfl) rfl rfl ?_
  refine l_split ?_ ?_
  ·intro hc2
   replace hc2 := of_decide_eq_true hc2
   refine l_end (n_then ?_)
   refine c_true rfl ?_
   refine c_seq (c_reg ?_)
   refine aS ?_
   refine aI ?_
   refine l_val (r_sliceToN (h := i) Tryz.underlying33 tyA64.size rfl rfl rfl (by omega)) rfl rfl ?_
   refine aI ?_
   refine aI ?_
   refine l_val (r_subN rfl rfl rfl (by omega) (by omega)) rfl rfl ?_
   refine l_appendZO (k := n + 1 - i) tyE33 Tryz.underlying3 hW 0 rfl (by omega) (by omega) (by omega) (by omega) (by omega) rfl rfl rfl (congrArg (fun k : Nat => Value.int .i64 (k : Int)) (show _ = n + 1 - i by omega)) rfl ?_
   intro gN cN curN W hN1 hN2 hN3 hN4 hW
   refine bS ?_
   refine l_end (n_then (c_seq (c_reg ?_)))
   refine aS ?_
   refine aI ?_
   refine l_val (r_sliceFromN (l := i) (j := (i) * 2) Tryz.underlying33 tyA64.size rfl rfl rfl (by omega) (by rw [if_neg (by omega)]; omega)) rfl rfl ?_
   refine aS ?_
   refine l_copyN hW 0 tyE33 (news := news) (j := 2) rfl rfl rfl rfl rfl rfl (fun j u hu => by rw [cells_of (hW.at (pS + 2) hpS), Nat.zero_add]; exact take_get hS hu) hSl (by omega) (by omega) hone2 ?_
   intro W hW
   refine l_end (n_then (c_seq ?_))
   refine c_regM hW [] [.q, .q, .q, .q, .q, .q, .q, .q, .q, .tail] [] [] [] [0, 0, 0, 4, 14, 31, 0, 0, 192, 511] (by kernel_rfl) (by kernel_rfl) rfl (by kernel_rfl) ?_
   refine yS ?_
   refine yI ?_
   refine yS ?_
   refine y_val (r_lenSlice Tryz.underlying33 rfl rfl) rfl rfl ?_
   refine y_val (r_addN rfl rfl rfl (by omega)) rfl rfl ?_
   refine y_val (r_sliceFromN (l := i + 2) (j := (i + 2) * 2) Tryz.underlying33 tyA64.size rfl rfl rfl (by omega) (by rw [if_neg (by omega)]; omega)) rfl rfl ?_
   refine yS ?_
   refine yI ?_
   refine y_val (r_sliceFromN (l := i + 1) (j := (i + 1) * 2) Tryz.underlying33 tyA64.size rfl rfl rfl (by omega) (by rw [if_neg (by omega)]; omega)) rfl rfl ?_
   refine y_tail ?_
   intro W hW
   refine l_copyN hW 0 tyE33 (news := ((cur.drop ((i + 1) * 2)).take ((n - (i + 1)) * 2))) (j := (n - (i + 1))) rfl rfl rfl rfl rfl rfl (fun j u hu => by rw [cells_of (hW.at 1 rfl)]; exact get_mid hu) (by rw [List.length_take, List.length_drop]; omega) (by omega) (by simp only [List.length_append, List.length_take, List.length_drop]; omega) (fun u hu => hone u (by rw [← hct]; exact mem_mid hi hu)) ?_
   intro W hW
   refine l_end (n_then (c_seq (c_reg ?_)))
   refine aS ?_
   refine bS ?_
   refine l_end (n_then (c_ret (r_then ?_)))
   refine ret_tmp (v := .slice _ _ _) rfl rfl ?_
   refine ⟨_, [_], rfl, ⟨some ⟨gN, 0, none⟩, cN, congrArg (fun k => Value.slice (some ⟨gN, 0, none⟩) k cN) (show (i + (n + 1 - i)) = n + 1 by omega), ?_, .inr ⟨gN, _, rfl, rfl, by omega, hN2, ?_, ?_⟩⟩, (show Cl _ (_ :: _ :: L) _ from hW).sub (.cons_cons _ (List.sublist_cons_self _ L))⟩
   ·rw [List.length_append, List.length_append, List.length_take, List.length_drop]; omega
   ·simp only [List.length_append, List.length_take, List.length_drop]; omega
   ·rw [repl_out hSl (by omega) (by omega) (by omega) hN4, hct]
  ·intro hc2
   replace hc2 := of_decide_eq_false hc2
   refine l_end (n_then ?_)
   refine c_false rfl ?_
   refine c_skip (n_then (c_seq (c_reg ?_)))
   refine aS ?_
   refine aI ?_
   refine l_val (r_sliceToN (h := i + 2 + (n - (i + 1))) Tryz.underlying33 tyA64.size rfl rfl rfl (by omega)) rfl rfl ?_
   refine bS ?_
   refine l_end (n_then (c_seq (c_seq (c_reg ?_))))
   refine aI ?_
   refine aS ?_
   refine l_val (r_lenSlice Tryz.underlying33 rfl rfl) rfl rfl ?_
   refine l_val (r_addN rfl rfl rfl (by omega)) rfl rfl ?_
   refine aI ?_
   refine l_val (r_leqN (b := false) rfl rfl rfl (decide_eq_false (by omega))) rfl rfl ?_
   refine l_end (n_then ?_)
   refine c_false rfl ?_
   refine c_skip (n_then (c_seq (c_seq (c_reg ?_))))
   refine aS ?_
   refine aI ?_
   refine aS ?_
   refine l_val (r_lenSlice Tryz.underlying33 rfl rfl) rfl rfl ?_
   refine l_val (r_addN rfl rfl rfl (by omega)) rfl rfl ?_
   refine l_val (r_sliceFromN (l := i + 2) (j := (i + 2) * 2) Tryz.underlying33 tyA64.size rfl rfl rfl (by omega) (by rw [if_neg (by omega)]; omega)) rfl rfl ?_
   refine aS ?_
   refine l_callE hW (v := .bool false) (args := [.slice (some ⟨g, (i + 2) * 2, none⟩) (i + 2 + (n - (i + 1)) - (i + 2)) (c - (i + 2)), .slice (some ⟨gs, 0, none⟩) 2 cS]) (by rw [run_callFunc_extern Tryz.func150 (by kernel_rfl) (by kernel_rfl) (by kernel_rfl) (e := Go.Extern.SlicesOverlaps.overlaps #[33, 33] #[4]) (by kernel_rfl), apart_run Tryz.underlying33 tyA64.size hW (p := 0) (q := pS + 1) (by omega) rfl hpS hnS]; rfl) rfl rfl rfl rfl ?_
   intro hW
   refine l_val (r_not rfl rfl) rfl rfl ?_
   refine l_end (n_then ?_)
   refine c_true rfl ?_
   refine c_seq ?_
   refine c_regM hW [] [.q, .q, .q, .q, .q, .q, .q, .q, .q, .tail] [] [] [] [0, 0, 0, 4, 14, 31, 0, 0, 192, 511] (by kernel_rfl) (by kernel_rfl) rfl (by kernel_rfl) ?_
   refine yS ?_
   refine yI ?_
   refine yS ?_
   refine y_val (r_lenSlice Tryz.underlying33 rfl rfl) rfl rfl ?_
   refine y_val (r_addN rfl rfl rfl (by omega)) rfl rfl ?_
   refine y_val (r_sliceFromN (l := i + 2) (j := (i + 2) * 2) Tryz.underlying33 tyA64.size rfl rfl rfl (by omega) (by rw [if_neg (by omega)]; omega)) rfl rfl ?_
   refine yS ?_
   refine yI ?_
   refine y_val (r_sliceFromN (l := i + 1) (j := (i + 1) * 2) Tryz.underlying33 tyA64.size rfl rfl rfl (by omega) (by rw [if_neg (by omega)]; omega)) rfl rfl ?_
   refine y_tail ?_
   intro W hW
   refine l_copyN hW 0 tyE33 (news := ((cur.drop ((i + 1) * 2)).take ((n - (i + 1)) * 2))) (j := (n - (i + 1))) rfl rfl rfl rfl rfl rfl (fun j u hu => by rw [cells_of (hW.at 0 rfl)]; exact get_mid hu) (by rw [List.length_take, List.length_drop]; omega) (by omega) (by omega) (fun u hu => hone u (by rw [← hct]; exact mem_mid hi hu)) ?_
   intro W hW
   refine l_end (n_then (c_seq (c_reg ?_)))
   refine aS ?_
   refine aI ?_
   refine l_val (r_sliceFromN (l := i) (j := (i) * 2) Tryz.underlying33 tyA64.size rfl rfl rfl (by omega) (by rw [if_neg (by omega)]; omega)) rfl rfl ?_
   refine aS ?_
   refine l_copyN hW 0 tyE33 (news := news) (j := 2) rfl rfl rfl rfl rfl rfl (fun j u hu => by rw [cells_of (hW.at (pS + 1) hpS), Nat.zero_add]; exact take_get hS hu) hSl (by omega) (by simp only [List.length_append, List.length_take, List.length_drop]; omega) hone2 ?_
   intro W hW
   refine l_end (n_then (c_seq (c_reg ?_)))
   refine aS ?_
   refine bS ?_
   refine l_end (n_then (c_ret (r_then ?_)))
   refine ret_tmp (v := .slice _ _ _) rfl rfl ?_
   refine ⟨_, [_], rfl, ⟨some ⟨g, 0, none⟩, c, congrArg (fun k => Value.slice (some ⟨g, 0, none⟩) k c) (show i + 2 + (n - (i + 1)) = n + 1 by omega), ?_, .inr ⟨g, _, rfl, rfl, by omega, hcm, ?_, ?_⟩⟩, hW⟩
   ·rw [List.length_append, List.length_append, List.length_take, List.length_drop]; omega
   ·simp only [List.length_append, List.length_take, List.length_drop]; omega
   ·rw [repl_in hSl (by omega) (by omega), hct]

end Go.Proofs.YtoegpalacppllaaGreat

/- A trace at work, by the program. -/
namespace Go.Proofs.YtoegpalacppllaaGreat
open Go.RowKit Pl
open Tr Hn
set_option maxRecDepth 10000 in
set_option maxHeartbeats 4000000 in
/-- (*headend/trace.tracer).run -/
theorem g_run (q : Bo) (t : Sl) (gx nn : Nat) (la : Option Addr) (lc : Nat) (l : List (Int × Int)) (BL : List Blk) (hO0 : OwnSl 64 2 la l.length lc (sl2 l) BL) (hs : schB q.s = true) (hu : usersB q.l ((p2 q.s.d.toNat : Nat) : Int) = true) (n0 : 0 ≤ q.n) (n8 : q.n ≤ 8) (x0 : 0 ≤ q.x) (x1 : q.x ≤ q.a) (m1 : 1 ≤ q.m) (m4 : q.m ≤ 4) (hl : q.l.length ≤ 100) (hn : nn ≤ 8) (hb : ∀ i, i < l.length → subB q.s (qn l i) (qm l i) = true) (hnd : (allm q.s l).Nodup) (hlim : q.a + ((((2 * p2 q.s.d.toNat + 1) * ((q.s.d.toNat + 2) * (2 * nn + 1))) : Nat) : Int) ≤ 100000) : GivesS Tryz.prog 62 [.pointer (some ⟨gx, 0, none⟩)].toArray (fun b0 L => ∀ W, Cl b0 L W → RdI W t q.l) ([⟨gx, (boC q t ++ trR nn Sl.no ⟨la, l.length, lc⟩ 0 0), 124⟩] ++ BL) (fun _ B => ∃ (n2 : Sl) (la2 : Option Addr) (lc2 : Nat) (BN BL2 : List Blk), B = (⟨gx, boC (traced (2 * nn + 1) ⟨q, l, [], 0⟩).1.b t ++ trR nn n2 ⟨la2, (traced (2 * nn + 1) ⟨q, l, [], 0⟩).1.l.length, lc2⟩ (traced (2 * nn + 1) ⟨q, l, [], 0⟩).1.a (traced (2 * nn + 1) ⟨q, l, [], 0⟩).2, 124⟩ : Blk) :: (BN ++ BL2) ∧ NewI n2 (traced (2 * nn + 1) ⟨q, l, [], 0⟩).1.nm BN ∧ OwnSl 64 2 la2 (traced (2 * nn + 1) ⟨q, l, [], 0⟩).1.l.length lc2 (sl2 (traced (2 * nn + 1) ⟨q, l, [], 0⟩).1.l) BL2) := by
 refine givesS_of Tryz.func62 rfl (bs := [.pointer (some ⟨gx, 0, none⟩), undef, undef, undef, undef, undef, undef, undef, undef, undef, undef, undef, undef, undef, undef, undef, undef, undef, undef, undef, undef, undef, undef, undef, undef, undef, undef, undef, undef, undef, undef, undef, undef, undef, undef, undef, undef, undef, undef, undef, undef, undef, undef, undef, undef, undef, undef, undef, undef, undef, undef, undef, undef, undef, undef, undef, undef, undef, undef, undef, undef, undef, undef, undef, undef, undef, undef, undef, undef, undef, undef, undef, undef, undef, undef, undef, undef, undef, undef, undef, undef, undef, undef, undef, undef, undef, undef, undef, undef, undef, undef, undef, undef, undef, undef, undef, undef, undef, undef, undef, undef, undef, undef, undef, undef, undef, undef, undef, undef, undef, undef, undef, undef, undef, undef, undef, undef, undef, undef, undef, undef, undef, undef, undef, undef, undef, undef, undef, undef, undef, undef]) rfl ?_
 intro b L w hP hW
 obtain ⟨k1, k3, d0, d6, -⟩ := schB_iff.1 hs
 have hp6 := p2_le (n := q.s.d.toNat) (by omega)
 have hrg : ∀ x ∈ allm q.s l, 0 ≤ x ∧ x < 64 := fun x hx => by
  have := all_lt hx
  omega
 refine c_scope ?_
 refine c_seq ?_
 refine c_label ?_
 refine n_then (c_block ?_)
 refine c_loop (fun (z : TrS) (j : Nat → Value) => [.pointer (some ⟨gx, 0, none⟩), j 1, j 2, j 3, j 4, j 5, j 6, j 7, j 8, j 9, j 10, j 11, j 12, j 13, j 14, j 15, j 16, j 17, j 18, j 19, j 20, j 21, j 22, j 23, j 24, j 25, j 26, j 27, j 28, j 29, j 30, j 31, j 32, j 33, j 34, j 35, j 36, j 37, j 38, j 39, j 40, j 41, j 42, j 43, j 44, j 45, j 46, j 47, j 48, j 49, j 50, j 51, j 52, j 53, j 54, j 55, j 56, j 57, j 58, j 59, j 60, j 61, j 62, j 63, j 64, j 65, j 66, j 67, j 68, j 69, j 70, j 71, j 72, j 73, j 74, j 75, j 76, j 77, j 78, j 79, j 80, j 81, j 82, j 83, j 84, j 85, j 86, j 87, j 88, j 89, j 90, j 91, j 92, j 93, j 94, j 95, j 96, j 97, j 98, j 99, j 100, j 101, j 102, j 103, j 104, j 105, j 106, j 107, j 108, j 109, j 110, j 111, j 112, j 113, j 114, j 115, j 116, j 117, j 118, j 119, j 120, j 121, j 122, j 123, j 124, j 125, j 126, j 127, j 128, j 129, j 130]) (fun (z : TrS) => [⟨gx, (boC z.t.b t ++ trR nn z.n2 ⟨z.la, z.t.l.length, z.lc⟩ z.t.a 0), 124⟩] ++ L ++ z.bn ++ z.bl) (fun (z : TrS) => TrP 64 (2 * nn + 1) q (allm q.s l) ⟨q, l, [], 0⟩ z) (fun (z : TrS) => z.t.pot) (⟨⟨q, l, [], 0⟩, t, [], Sl.no, [], la, lc, BL⟩ : TrS) (by kernel_rfl) (pickI (show Cl _ (([_] ++ BL) ++ L) _ from hW)) ⟨Tin.first hs x0 x1 hb hnd, rfl, NewI.no, hO0⟩ ?_
 intro z j W hx hW
 obtain ⟨ht, heq, hnm, hls⟩ := hx
 have ha := ht.ask
 have e1 := ha.a
 have e2 := ha.n
 have e3 := ha.x0
 have e4 := ha.x1
 have hbs := ha.s
 have hbl := ha.l
 obtain ⟨hlen1, hlen2⟩ := len_le hs hnd ht.part
 have hfit := ht.fit
 rw [Nat.succ_mul] at hfit
 have hK := Nat.add_mul q.s.d.toNat 2 (2 * nn + 1)
 have hst : schB z.t.b.s = true := by rw [hbs]; exact hs
 have hut : usersB z.t.b.l ((p2 z.t.b.s.d.toNat : Nat) : Int) = true := by rw [hbs, hbl]; exact hu
 have hsubs : ∀ i, i < z.t.l.length → subB z.t.b.s (qn z.t.l i) (qm z.t.l i) = true := fun i hi => by rw [hbs]; exact ht.part.sub (qn z.t.l i, qm z.t.l i) (q_mem.2 ⟨i, hi, rfl⟩)
 have hrnd := ht.round hs hnd hrg
 have hnml : z.t.nm.length ≤ 64 := by
  have h1 : z.t.nm.Nodup := (List.nodup_append.1 ((ht.part.perm.nodup_iff).2 hnd)).2.1
  have h2 := List.Nodup.length_le_of_subset (l₂ := (List.range 64).map fun u : Nat => (u : Int)) h1 fun x hx => by
   have := hrg x (ht.part.perm.subset (List.mem_append_right _ hx))
   exact List.mem_map.2 ⟨x.toNat, List.mem_range.2 (by omega), by omega⟩
  simpa using h2
 have e5 := ha.m
 refine c_block (c_seq ?_)
 refine c_regC hW [] [.q, .q, .q, .q, .q, .q, .q, .q, .q, .q, .mk 0, .tail, .tail, .tail, .tail, .tail] [⟨21, fun _ u Bs => ∃ (t : Sl) (ss : List Sl), u = .tuple #[t.v, .int .i64 (subsE z.t.b.s z.t.l)] ∧ (subsE z.t.b.s z.t.l = 0 → Rep Bs fun W => RdG W t ss (mems z.t.b.s z.t.l))⟩] [[]] [10] [0, 1, 3, 7, 15, 0, 32, 96, 224, 480, 1023, 2047, 4095, 4095, 8191, 32767] [] [.q, .q, .q, .q, .q, .q, .q, .q, .q, .q, .q, .q, .q, .q, .q, .q] [] [] [] (by kernel_rfl) (by kernel_rfl) rfl rfl (by kernel_rfl) (by kernel_rfl) ?_
 refine y_val (r_move (v := .pointer _) rfl rfl) rfl rfl ?_
 refine y_val (r_nilCheck rfl rfl) rfl rfl ?_
 refine y_val (r_fieldAddr 0 Tryz.underlying124 rfl tyA31.size rfl rfl rfl) rfl rfl ?_
 refine y_val (r_fieldAddr 0 Tryz.underlying31 rfl tyA26.size rfl rfl rfl) rfl rfl ?_
 refine y_loadP 0 tyA26 rfl rfl rfl rfl rfl (by rw [List.length_append, boC_len]; omega) (show _ = ([.int .u8 z.t.b.s.k, .int .i64 z.t.b.s.d, .int .i64 z.t.b.s.g, .int .u64 z.t.b.s.p, .int .u64 z.t.b.s.q, .int .u64 z.t.b.s.r] : List Value) from rfl) (by decide) ?_
 refine y_val (r_move (v := .pointer _) rfl rfl) rfl rfl ?_
 refine y_val (r_nilCheck rfl rfl) rfl rfl ?_
 refine y_val (r_fieldAddr 29 Tryz.underlying124 rfl tyA38.size rfl rfl rfl) rfl rfl ?_
 refine y_val (r_fieldAddr 30 Tryz.underlying38 rfl tyC33.size rfl rfl rfl) rfl rfl ?_
 refine y_loadC 0 tyC33 rfl rfl rfl rfl rfl rfl (by decide) ?_
 refine y_callX 0 (g_psubsets z.t.b.s z.la z.t.l.length z.lc z.t.l hst (by omega)) en83 rfl rfl (fun L2 w hs hC => hls.repB.at hC ((List.sublist_append_right _ z.bl).trans hs.pre)) rfl rfl ?_
 refine y_tail ?_
 refine y_made ?_
 rintro _ BsS ⟨tS, ss, rfl, hG⟩
 have hz0 : subsE z.t.b.s z.t.l = 0 := subsE_yes (by omega) hsubs
 have hG1 := hG hz0
 refine y_val (r_move (v := .tuple _) rfl rfl) rfl rfl ?_
 refine y_val (r_extract (v := .slice _ _ _) rfl rfl rfl) rfl rfl ?_
 refine y_val (r_extract (v := .int _ _) rfl rfl rfl) rfl rfl ?_
 refine y_val (r_assign (v := .slice _ _ _) rfl rfl) rfl rfl ?_
 refine y_val (r_assign (v := .int _ _) rfl rfl) rfl rfl ?_
 refine y_end ?_
 intro W hW
 replace hW := hW.perm List.perm_append_comm
 refine n_then (c_seq (c_reg ?_))
 refine aP ?_
 refine l_val (r_nilCheck rfl rfl) rfl rfl ?_
 refine l_val (r_fieldAddr 0 Tryz.underlying124 rfl tyA31.size rfl rfl rfl) rfl rfl ?_
 refine l_loadP hW 0 tyA31 rfl rfl rfl rfl rfl (by rw [List.length_append, boC_len]; omega) (boC_boxR _ _ _) ?_
 refine aS ?_
 have hgl : ∀ m ∈ mems z.t.b.s z.t.l, m.length ≤ 4294967296 := fun m hm => by
  obtain ⟨y, -, rfl⟩ := List.mem_map.1 hm
  have h1 := mem_len z.t.b.s y.1 y.2 (p2 z.t.b.s.d.toNat)
  have h2 : p2 z.t.b.s.d.toNat ≤ 64 := by rw [hbs]; exact hp6
  omega
 have htn : tS.n = z.t.l.length := by
  have h1 := (hG1.at hW (List.sublist_append_right _ BsS)).n
  have h2 := (hG1.at hW (List.sublist_append_right _ BsS)).len
  rw [mems_len] at h2; omega
 refine l_callX hW (g_opens z.t.b t tS.a tS.n tS.c ss (mems z.t.b.s z.t.l) (users_pair hut) (by rw [hbl]; exact hl) (by rw [mems_len]; omega) hgl) en85 ⟨by rw [hbl]; exact hP W (hW.sub ((((List.sublist_append_right _ L).trans (List.sublist_append_left _ z.bn)).trans (List.sublist_append_left _ z.bl)).trans (List.sublist_append_left _ BsS))), hG1.at hW (List.sublist_append_right _ BsS)⟩ rfl rfl rfl rfl ?_
 rintro _ BO W ⟨ao, co, rfl, hOO⟩ hW
 have hOT : OwnSl 4 1 ao z.t.l.length co (tl z.t.o) BO := by
  have h := hOO
  rw [mems_len, opl_opens hut] at h
  exact h
 rw [mems_len]
 have hol : z.t.o.length = z.t.l.length := opens_length z.t
 refine bS ?_
 refine l_end (n_then (c_seq (c_seq (c_reg ?_))))
 refine aP ?_
 refine aS ?_
 refine l_callS (B := [_]) (L := ((((L ++ z.bn) ++ z.bl) ++ BsS) ++ BO)) (g_tseen z.t.b t gx nn z.t.a 0 z.n2 ⟨z.la, z.t.l.length, z.lc⟩ ao z.t.l.length co z.t.o 0 (by omega) (by omega) (by omega) (by omega) (by omega) (by omega) hn (by omega) (by omega) (by omega)) (show Cl _ ([_] ++ ((((L ++ z.bn) ++ z.bl) ++ BsS) ++ BO)) _ from hW) en105 (fun W hC => hOT.repT.at hC (List.sublist_append_right _ BO)) rfl rfl rfl rfl ?_
 rintro _ _ W ⟨rfl, rfl⟩ hW
 obtain ⟨r1, hr1⟩ : ∃ r, r = seenN z.t.o 0 (2 * nn + 1) z.t.b z.t.a := ⟨_, rfl⟩
 rw [← hr1] at hW ⊢
 obtain ⟨m1, hm1a, hm1b, hm1c, -⟩ := seenN_run z.t.o 0 (2 * nn + 1) z.t.a ha
 rw [← hr1] at hm1b hm1c
 have ha1 : Askd q r1.1 r1.2.2 := by rw [hm1c]; exact hm1b
 have hsa1 : seenN z.t.o 0 (2 * nn + 1) z.t.b z.t.a = (r1.1, r1.2.1, r1.2.2) := hr1.symm
 have f1a := ha1.a
 have f1n := ha1.n
 have f1m := ha1.m
 have f10 := ha1.x0
 have f11 := ha1.x1
 refine l_split ?_ ?_
 ·intro hc1
  have hpos : 0 < z.t.o.length := seenN_pos (k := 2 * nn + 1) (b := z.t.b) (n := z.t.a) (f := 0) (by rw [← hr1]; exact hc1)
  refine l_val (r_not rfl rfl) rfl rfl ?_
  refine l_end (n_then ?_)
  refine c_false rfl ?_
  refine c_skip (n_then (c_seq (c_reg ?_)))
  refine aS ?_
  refine l_val (r_lenSlice Tryz.underlying155 rfl rfl) rfl rfl ?_
  refine bI ?_
  refine bI ?_
  refine l_end (n_then (c_seq (c_block ?_)))
  refine c_loop (fun (y : Nat × Nat × Bo × Nat) (j : Nat → Value) => [.pointer (some ⟨gx, 0, none⟩), j 1, .slice tS.a tS.n tS.c, .int .i64 (subsE z.t.b.s z.t.l), .slice ao z.t.l.length co, .int .i64 (y.1 : Int), .int .i64 (y.2.1 : Int), j 7, j 8, j 9, .tuple #[.slice tS.a tS.n tS.c, .int .i64 (subsE z.t.b.s z.t.l)], .pointer (some ⟨gx, 0, none⟩), .pointer (some ⟨gx, 0, none⟩), .pointer (some ⟨gx, 0, none⟩), .pointer (some ⟨gx, 0, none⟩), .agg [.int .u8 z.t.b.s.k, .int .i64 z.t.b.s.d, .int .i64 z.t.b.s.g, .int .u64 z.t.b.s.p, .int .u64 z.t.b.s.q, .int .u64 z.t.b.s.r].toArray, .pointer (some ⟨gx, 0, none⟩), .pointer (some ⟨gx, 0, none⟩), .pointer (some ⟨gx, 29, none⟩), .pointer (some ⟨gx, 30, none⟩), .slice z.la z.t.l.length z.lc, .tuple #[.slice tS.a tS.n tS.c, .int .i64 (subsE z.t.b.s z.t.l)], .slice tS.a tS.n tS.c, .int .i64 (subsE z.t.b.s z.t.l), .pointer (some ⟨gx, 0, none⟩), .pointer (some ⟨gx, 0, none⟩), .pointer (some ⟨gx, 0, none⟩), .agg (boC z.t.b t).toArray, .slice tS.a tS.n tS.c, .slice ao z.t.l.length co, .pointer (some ⟨gx, 0, none⟩), .slice ao z.t.l.length co, .bool true, .bool false, j 34, j 35, j 36, j 37, .slice ao z.t.l.length co, .int .i64 (z.t.l.length : Int), j 40, j 41, j 42, j 43, j 44, j 45, j 46, j 47, j 48, j 49, j 50, j 51, j 52, j 53, j 54, j 55, j 56, j 57, j 58, j 59, j 60, j 61, j 62, j 63, j 64, j 65, j 66, j 67, j 68, j 69, j 70, j 71, j 72, j 73, j 74, j 75, j 76, j 77, j 78, j 79, j 80, j 81, j 82, j 83, j 84, j 85, j 86, j 87, j 88, j 89, j 90, j 91, j 92, j 93, j 94, j 95, j 96, j 97, j 98, j 99, j 100, j 101, j 102, j 103, j 104, j 105, j 106, j 107, j 108, j 109, j 110, j 111, j 112, j 113, j 114, j 115, j 116, j 117, j 118, j 119, j 120, j 121, j 122, j 123, j 124, j 125, j 126, j 127, j 128, j 129, j 130]) (fun (y : Nat × Nat × Bo × Nat) => [⟨gx, (boC y.2.2.1 t ++ trR nn z.n2 ⟨z.la, z.t.l.length, z.lc⟩ y.2.2.2 0), 124⟩] ++ ((((L ++ z.bn) ++ z.bl) ++ BsS) ++ BO)) (fun (y : Nat × Nat × Bo × Nat) => y.1 < y.2.1 ∧ y.2.1 ≤ z.t.o.length ∧ (∃ j, y.2.1 - y.1 ≤ p2 j ∧ y.2.2.2 + j * (2 * nn + 1) ≤ r1.2.2 + q.s.d.toNat * (2 * nn + 1)) ∧ Askd q y.2.2.1 y.2.2.2 ∧ searchN z.t.o (2 * nn + 1) z.t.o.length 0 z.t.o.length r1.1 r1.2.2 = searchN z.t.o (2 * nn + 1) (y.2.1 - y.1) y.1 y.2.1 y.2.2.1 y.2.2.2) (fun (y : Nat × Nat × Bo × Nat) => y.2.1 - y.1) (0, z.t.l.length, r1.1, r1.2.2) (by kernel_rfl) (show Cl _ ([_] ++ ((((L ++ z.bn) ++ z.bl) ++ BsS) ++ BO)) _ from hW) ⟨by simp only; omega, by simp only; omega, ⟨q.s.d.toNat, by simp only; omega, by simp only; omega⟩, ha1, by simp only [Nat.sub_zero, opens_length]⟩ ?_
  intro y j W hx hW
  obtain ⟨hlo, hhi, ⟨j, hj1, hj2⟩, hay, hsr⟩ := hx
  have g1 := hay.a
  have g2 := hay.n
  have g3 := hay.x0
  have g4 := hay.x1
  have g5 := hay.m
  refine c_seq (c_seq (c_reg ?_))
  refine aI ?_
  refine aI ?_
  refine l_val (r_subN rfl rfl rfl (by omega) (by omega)) rfl rfl ?_
  refine l_val (r_gtrN (n := 1) rfl rfl rfl rfl) rfl rfl ?_
  refine l_split ?_ ?_
  ·intro hc2
   replace hc2 := of_decide_eq_true hc2
   obtain ⟨jj, rfl⟩ : ∃ jj, j = jj + 1 := ⟨j - 1, by
    cases j with
    | zero => simp only [p2] at hj1; omega
    | succ j => rfl⟩
   rw [p2] at hj1
   rw [Nat.succ_mul] at hj2
   refine l_end (n_then ?_)
   refine c_true rfl ?_
   refine c_skip (n_then (c_block (c_seq (c_reg ?_))))
   refine aI ?_
   refine aI ?_
   refine l_val (r_addN rfl rfl rfl (by omega)) rfl rfl ?_
   refine l_val (r_quoN (n := 2) rfl rfl rfl (by omega) (by omega)) rfl rfl ?_
   refine bI ?_
   refine l_end (n_then (c_seq (c_reg ?_)))
   refine aP ?_
   refine aS ?_
   refine aI ?_
   refine l_callS (B := [_]) (L := ((((L ++ z.bn) ++ z.bl) ++ BsS) ++ BO)) (g_tseen y.2.2.1 t gx nn y.2.2.2 0 z.n2 ⟨z.la, z.t.l.length, z.lc⟩ ao z.t.l.length co z.t.o (((y.1 + y.2.1) / 2 : Nat) : Int) (by omega) (by omega) (by omega) (by omega) (by omega) (by omega) hn (by omega) (by omega) (by omega)) (show Cl _ ([_] ++ ((((L ++ z.bn) ++ z.bl) ++ BsS) ++ BO)) _ from hW) en105 (fun W hC => hOT.repT.at hC (List.sublist_append_right _ BO)) rfl rfl rfl rfl ?_
   rintro _ _ W ⟨rfl, rfl⟩ hW
   obtain ⟨r2, hr2⟩ : ∃ r, r = seenN z.t.o (((y.1 + y.2.1) / 2 : Nat) : Int) (2 * nn + 1) y.2.2.1 y.2.2.2 := ⟨_, rfl⟩
   rw [← hr2] at hW ⊢
   obtain ⟨m2, hm2a, hm2b, hm2c, -⟩ := seenN_run z.t.o (((y.1 + y.2.1) / 2 : Nat) : Int) (2 * nn + 1) y.2.2.2 hay
   rw [← hr2] at hm2b hm2c
   have ha2 : Askd q r2.1 r2.2.2 := by rw [hm2c]; exact hm2b
   have hsa2 : seenN z.t.o (((y.1 + y.2.1) / 2 : Nat) : Int) (2 * nn + 1) y.2.2.1 y.2.2.2 = (r2.1, r2.2.1, r2.2.2) := hr2.symm
   have f2a := ha2.a
   have f2n := ha2.n
   have f2m := ha2.m
   have f20 := ha2.x0
   have f21 := ha2.x1
   refine l_split ?_ ?_
   ·intro hc3
    refine l_end (n_then ?_)
    refine c_true rfl ?_
    refine c_reg ?_
    refine aI ?_
    refine bI ?_
    refine l_end (n_block (n_then ?_))
    exact loop_next ((y.1 + y.2.1) / 2, y.2.1, r2.1, r2.2.2) (by kernel_rfl) hW ⟨by simp only; omega, by simp only; omega, ⟨jj, by simp only; omega, by simp only; omega⟩, ha2, by simp only; rw [hsr, show y.2.1 - y.1 = (y.2.1 - y.1 - 1) + 1 by omega, searchN_yes (by omega) (hsa2.trans (by rw [hc3]))]; exact searchN_fuel (by omega) (by omega)⟩ (by simp only; omega)
   ·intro hc3
    refine l_end (n_then ?_)
    refine c_false rfl ?_
    refine c_reg ?_
    refine aI ?_
    refine bI ?_
    refine l_end (n_block (n_then ?_))
    exact loop_next (y.1, (y.1 + y.2.1) / 2, r2.1, r2.2.2) (by kernel_rfl) hW ⟨by simp only; omega, by simp only; omega, ⟨jj, by simp only; omega, by simp only; omega⟩, ha2, by simp only; rw [hsr, show y.2.1 - y.1 = (y.2.1 - y.1 - 1) + 1 by omega, searchN_no (by omega) (hsa2.trans (by rw [hc3]))]; exact searchN_fuel (by omega) (by omega)⟩ (by simp only; omega)
  ·intro hc2
   replace hc2 := of_decide_eq_false hc2
   have hsa2 : searchN z.t.o (2 * nn + 1) z.t.o.length 0 z.t.o.length r1.1 r1.2.2 = (y.2.2.1, y.1, y.2.2.2) := by rw [hsr, searchN_end (by omega)]
   have hj3 := Nat.zero_le (j * (2 * nn + 1))
   refine l_end (n_then ?_)
   refine c_false rfl ?_
   refine c_exit (x_then (x_then ?_))
   refine x_hit ?_
   refine n_then (c_seq (c_seq (c_reg ?_)))
   refine aP ?_
   refine aS ?_
   refine l_callS (B := [_]) (L := ((((L ++ z.bn) ++ z.bl) ++ BsS) ++ BO)) (g_tseen y.2.2.1 t gx nn y.2.2.2 0 z.n2 ⟨z.la, z.t.l.length, z.lc⟩ ao z.t.l.length co z.t.o 0 (by omega) (by omega) (by omega) (by omega) (by omega) (by omega) hn (by omega) (by omega) (by omega)) (show Cl _ ([_] ++ ((((L ++ z.bn) ++ z.bl) ++ BsS) ++ BO)) _ from hW) en105 (fun W hC => hOT.repT.at hC (List.sublist_append_right _ BO)) rfl rfl rfl rfl ?_
   rintro _ _ W ⟨rfl, rfl⟩ hW
   obtain ⟨r3, hr3⟩ : ∃ r, r = seenN z.t.o 0 (2 * nn + 1) y.2.2.1 y.2.2.2 := ⟨_, rfl⟩
   rw [← hr3] at hW ⊢
   obtain ⟨m3, hm3a, hm3b, hm3c, -⟩ := seenN_run z.t.o 0 (2 * nn + 1) y.2.2.2 hay
   rw [← hr3] at hm3b hm3c
   have ha3 : Askd q r3.1 r3.2.2 := by rw [hm3c]; exact hm3b
   have hsa3 : seenN z.t.o 0 (2 * nn + 1) y.2.2.1 y.2.2.2 = (r3.1, r3.2.1, r3.2.2) := hr3.symm
   have f3a := ha3.a
   have f3n := ha3.n
   have f3m := ha3.m
   have f30 := ha3.x0
   have f31 := ha3.x1
   refine l_split ?_ ?_
   ·intro hc4
    refine l_val (r_not rfl rfl) rfl rfl ?_
    refine l_end (n_then ?_)
    refine c_false rfl ?_
    refine c_skip (n_then (c_seq (c_seq (c_reg ?_))))
    refine aI ?_
    refine aS ?_
    refine l_val (r_lenSlice Tryz.underlying150 rfl rfl) rfl rfl ?_
    refine l_val (r_geqN (b := false) rfl rfl rfl (decide_eq_false (by omega))) rfl rfl ?_
    refine l_end (n_then ?_)
    refine c_false rfl ?_
    refine c_skip (n_then (c_seq (c_seq (c_reg ?_))))
    have hG2 := hG1.at (show Cl _ ([_] ++ ((((L ++ z.bn) ++ z.bl) ++ BsS) ++ BO)) _ from hW) (((List.sublist_append_right _ BsS).trans (List.sublist_append_left _ BO)).trans (List.sublist_append_right [_] _))
    obtain ⟨b0, o0, hat⟩ := hG2.ptr (by omega)
    have hG3 : Rep BsS fun W => RdG W ⟨some ⟨b0, o0, none⟩, tS.n, tS.c⟩ ss (mems z.t.b.s z.t.l) := by rw [← hat]; exact hG1
    obtain ⟨sm, mm, hs1, hm1, -, hmr⟩ := (hG3.at (show Cl _ ([_] ++ ((((L ++ z.bn) ++ z.bl) ++ BsS) ++ BO)) _ from hW) (((List.sublist_append_right _ BsS).trans (List.sublist_append_left _ BO)).trans (List.sublist_append_right [_] _))).get (i := y.1) (by omega)
    have hrm0 : Rep BsS fun W => RdI W sm mm := fun b W hC => (hG3 b W hC).es _ _ _ hs1 hm1
    have hmm : mm = membersN z.t.b.s (qn z.t.l y.1) (qm z.t.l y.1) (p2 z.t.b.s.d.toNat) := by
     rw [mems_get (by omega)] at hm1
     exact (Option.some.inj hm1).symm
    have hsml := hmr.len
    have hmlen := mem_len z.t.b.s (qn z.t.l y.1) (qm z.t.l y.1) (p2 z.t.b.s.d.toNat)
    have hp62 : p2 z.t.b.s.d.toNat ≤ 64 := by rw [hbs]; exact hp6
    rw [hmm] at hsml
    have hrm : Rep BsS fun W => RdI W sm (membersN z.t.b.s (qn z.t.l y.1) (qm z.t.l y.1) (p2 z.t.b.s.d.toNat)) := by rw [← hmm]; exact hrm0
    obtain ⟨tk, htk⟩ : ∃ k, k = taken z.t.b.s z.t.l y.1 := ⟨_, rfl⟩
    obtain ⟨tm, htm⟩ : ∃ k, k = takenM z.t.b.s z.t.l z.t.nm y.1 := ⟨_, rfl⟩
    have hs3 : r3.1.s = z.t.b.s := ha3.s.trans hbs.symm
    have hsrt := (ht.part.step hs hnd hrg (i := y.1) (by omega)).2.2
    rw [← hbs] at hsrt
    obtain ⟨gr, cur, hla, hbl2, -, -, -⟩ := hls.row (by omega)
    have hls2 := hls
    rw [hla, hbl2] at hls2
    refine aS ?_
    refine aI ?_
    refine l_val (r_indexAddrSl2 (n := y.1) Tryz.underlying150 tyC27.size rfl (congrArg (fun a => Value.slice a tS.n tS.c) hat) rfl (by omega)) rfl rfl ?_
    refine l_loadW tyC27 (v := sm.v) ((hG3.at (show Cl _ ([_] ++ ((((L ++ z.bn) ++ z.bl) ++ BsS) ++ BO)) _ from hW) (((List.sublist_append_right _ BsS).trans (List.sublist_append_left _ BO)).trans (List.sublist_append_right [_] _))).cell hs1) rfl rfl rfl rfl ?_
    refine l_val (r_lenSlice Tryz.underlying27 rfl rfl) rfl rfl ?_
    refine l_val (r_eqlN (n := 1) rfl rfl rfl rfl) rfl rfl ?_
    refine l_split ?_ ?_
    ·intro hc5
     replace hc5 := of_decide_eq_true hc5
     have h1 : (membersN z.t.b.s (qn z.t.l y.1) (qm z.t.l y.1) (p2 z.t.b.s.d.toNat)).length = 1 := by omega
     have htk1 : tk = z.t.l.take y.1 ++ z.t.l.drop (y.1 + 1) := by rw [htk, taken_mid, mid_one h1]; rfl
     have htm1 : tm = merged z.t.nm (membersN z.t.b.s (qn z.t.l y.1) (qm z.t.l y.1) (p2 z.t.b.s.d.toNat)) := htm.trans (if_pos h1)
     have hln : z.t.l.length - 1 = tk.length := by rw [htk1, List.length_append, List.length_take, List.length_drop]; omega
     refine l_end (n_then ?_)
     refine c_true rfl ?_
     refine c_seq ?_
     refine c_regM hW [] [.q, .q, .q, .q, .q, .q, .q, .q, .q, .q, .mk 0, .mkd 1 0, .tail, .tail, .tail, .tail] [⟨82, bslX 27 2⟩, ⟨83, fun _ v Bs => ∃ s : Sl, v = s.v ∧ NewI s (sortI [z.t.nm, membersN z.t.b.s (qn z.t.l y.1) (qm z.t.l y.1) (p2 z.t.b.s.d.toNat)].flatten) Bs⟩] [[z.n2.v, sm.v], []] [10, 11] [0, 0, 2, 6, 14, 30, 0, 0, 192, 448, 1022, 2046, 4095, 8191, 16383, 32767] (by kernel_rfl) (by kernel_rfl) rfl (by kernel_rfl) ?_
     refine y_val (r_move (v := .pointer _) rfl rfl) rfl rfl ?_
     refine y_val (r_move (v := .pointer _) rfl rfl) rfl rfl ?_
     refine y_val (r_nilCheck rfl rfl) rfl rfl ?_
     refine y_val (r_fieldAddr 29 Tryz.underlying124 rfl tyA38.size rfl rfl rfl) rfl rfl ?_
     refine y_val (r_fieldAddr 29 Tryz.underlying38 rfl tyC27.size rfl rfl rfl) rfl rfl ?_
     refine y_loadC 0 tyC27 rfl rfl rfl rfl rfl rfl (by decide) ?_
     refine yS ?_
     refine yI ?_
     refine y_val (r_indexAddrSl2 (n := y.1) Tryz.underlying150 tyC27.size rfl (congrArg (fun a => Value.slice a tS.n tS.c) hat) rfl (by omega)) rfl rfl ?_
     refine y_loadR tyC27 (v := sm.v) (fun L2 w hs hC => (hG3.at hC ((((List.sublist_append_right _ BsS).trans (List.sublist_append_left _ BO)).trans (List.sublist_append_right [_] _)).trans hs.pre)).cell hs1) rfl rfl rfl rfl ?_
     refine y_buildSliceF 0 (bsl150_2_0_1 _ _ _ _ _ _) rfl rfl rfl rfl ?_
     refine y_callXs 1 0 en80 rfl rfl rfl rfl ?_ rfl ?_
     ·rintro _ _ L2 hS ⟨g2, rfl, rfl⟩
      exact ⟨_, _, g_merged (some ⟨g2, 0, none⟩) 2 2 [z.n2, sm] [z.t.nm, membersN z.t.b.s (qn z.t.l y.1) (qm z.t.l y.1) (p2 z.t.b.s.d.toNat)] (by rw [sumL_flat]; simp only [List.flatten_cons, List.flatten_nil, List.append_nil, List.length_append]; omega) (by decide), fun w hC => RdG.two (hC.sub (List.sublist_append_right L2 _)) 0 rfl (hnm.rep.at hC ((((((List.sublist_append_right _ z.bn).trans (List.sublist_append_left _ z.bl)).trans (List.sublist_append_left _ BsS)).trans (List.sublist_append_left _ BO)).trans (List.sublist_append_right [_] _)).trans (hS.pre.trans (List.sublist_append_left L2 _)))) (hrm.at hC ((((List.sublist_append_right _ BsS).trans (List.sublist_append_left _ BO)).trans (List.sublist_append_right [_] _)).trans (hS.pre.trans (List.sublist_append_left L2 _)))), rfl⟩
     refine y_tail ?_
     refine y_made ?_
     rintro _ _ ⟨g2, rfl, rfl⟩
     refine y_made ?_
     rintro _ BM ⟨s9, rfl, h9⟩
     intro W hW
     replace hW := pickM (G := [_]) hW
     rw [show [z.t.nm, membersN z.t.b.s (qn z.t.l y.1) (qm z.t.l y.1) (p2 z.t.b.s.d.toNat)].flatten = z.t.nm ++ membersN z.t.b.s (qn z.t.l y.1) (qm z.t.l y.1) (p2 z.t.b.s.d.toNat) by simp, hsrt, ← htm1] at h9
     refine l_val (r_nilCheck rfl rfl) rfl rfl ?_
     refine l_val (r_fieldAddr 29 Tryz.underlying124 rfl tyA38.size rfl rfl rfl) rfl rfl ?_
     refine l_val (r_fieldAddr 29 Tryz.underlying38 rfl tyC27.size rfl rfl rfl) rfl rfl ?_
     refine l_storeC hW 0 tyC27 (v := s9.v) rfl rfl rfl rfl rfl rfl (trR_len (by decide)) rfl ?_
     intro W hW
     replace hW := (show Cl _ (([⟨gx, boC r3.1 t ++ trR nn s9 ⟨z.la, z.t.l.length, z.lc⟩ r3.2.2 0, 124⟩] ++ ((((L ++ z.bn) ++ z.bl) ++ BsS) ++ BO)) ++ ([_] ++ BM)) _ from hW)
     refine l_end (n_then (c_seq (c_reg ?_)))
     refine aP ?_
     refine aP ?_
     refine l_val (r_nilCheck rfl rfl) rfl rfl ?_
     refine l_val (r_fieldAddr 29 Tryz.underlying124 rfl tyA38.size rfl rfl rfl) rfl rfl ?_
     refine l_val (r_fieldAddr 30 Tryz.underlying38 rfl tyC33.size rfl rfl rfl) rfl rfl ?_
     refine dC hW 0 tyC33 ?_
     refine aI ?_
     refine aI ?_
     refine l_val (r_addN (n := 1) rfl rfl rfl (by omega)) rfl rfl ?_
     replace hW := pickA hW
     rw [hbl2] at hW
     refine l_callS (B := [_]) (L := [_] ++ (L ++ BM)) (g_DeleteB gr z.t.l.length z.lc y.1 cur (sl2 z.t.l) hls2 (by omega) (sl2_one _)) hW en106 trivial rfl rfl (by show [Value.slice z.la _ _, _, _] = _; rw [hla]; rfl) rfl ?_
     rintro _ B9 W ⟨rfl, hO9⟩ hW
     replace hW := hW.perm List.perm_append_comm
     replace hO9 := hO9.castx hln (xs' := sl2 tk) (by rw [htk1, sl2_append, sl2_take, sl2_drop])
     rw [hln]
     refine l_val (r_nilCheck rfl rfl) rfl rfl ?_
     refine l_val (r_fieldAddr 29 Tryz.underlying124 rfl tyA38.size rfl rfl rfl) rfl rfl ?_
     refine l_val (r_fieldAddr 30 Tryz.underlying38 rfl tyC33.size rfl rfl rfl) rfl rfl ?_
     refine l_storeC hW 0 tyC33 (v := .slice (some ⟨gr, 0, none⟩) tk.length z.lc) rfl rfl rfl rfl rfl rfl (trR_len (by decide)) rfl ?_
     intro W hW
     refine l_end (n_then (c_exit (x_then ?_)))
     refine x_hit ?_
     refine n_then ?_
     have hround : roundN (2 * nn + 1) z.t = (⟨r3.1, tk, tm, r3.2.2⟩, 0) := by rw [round_0 (hsa1.trans (by rw [hc1])) hsa2 (hsa3.trans (by rw [hc4])), htk, htm]
     have hin := (hrnd.1 (by rw [hround])).1
     have hpt := (hrnd.1 (by rw [hround])).2
     rw [hround] at hin hpt
     exact loop_next ⟨⟨r3.1, tk, tm, r3.2.2⟩, t, [], s9, BM, some ⟨gr, 0, none⟩, z.lc, B9⟩ (by kernel_rfl) (show Cl _ ((([⟨gx, boC r3.1 t ++ trR nn s9 ⟨some ⟨gr, 0, none⟩, tk.length, z.lc⟩ r3.2.2 0, 124⟩] ++ L) ++ BM) ++ B9) _ from hW) ⟨hin, heq.trans ((traced_0 hs hnd hrg ht (by rw [hround])).trans (by rw [hround])), h9, hO9⟩ hpt
    ·intro hc5
     replace hc5 := of_decide_eq_false hc5
     have h1 : (membersN z.t.b.s (qn z.t.l y.1) (qm z.t.l y.1) (p2 z.t.b.s.d.toNat)).length ≠ 1 := by omega
     have htk2 : tk = z.t.l.take y.1 ++ (splitV z.t.b.s (qn z.t.l y.1) (qm z.t.l y.1) ++ z.t.l.drop (y.1 + 1)) := by rw [htk, taken_mid, mid_two h1]
     have htm2 : tm = z.t.nm := htm.trans (if_neg h1)
     have hsp2 := (split_perm hst (hsubs y.1 (by omega)) h1).2.1
     have hln : z.t.l.length + 1 = tk.length := by rw [htk2, List.length_append, List.length_append, List.length_take, List.length_drop, hsp2]; omega
     have hB2 : Rep z.bl fun W => RdB W ⟨some ⟨gr, 0, none⟩, z.t.l.length, z.lc⟩ z.t.l := by rw [← hla]; exact hls.repB
     refine l_end (n_then ?_)
     refine c_false rfl ?_
     refine c_skip (n_then (c_seq ?_))
     refine c_regC hW [] [.q, .q, .q, .q, .q, .q, .q, .q, .q, .q, .q, .q, .q, .mk 0, .tail, .tail, .tail, .tail, .tail] [⟨114, fun _ u Bs => ∃ a c, u = .tuple #[.slice a 2 c, .int .i64 0] ∧ OwnSl 64 2 a 2 c (sl2 (splitV r3.1.s (qn z.t.l y.1) (qm z.t.l y.1))) Bs⟩] [[]] [13] [0, 1, 3, 7, 15, 0, 32, 96, 224, 480, 0, 2016, 4064, 8191, 16383, 32767, 32767, 65535, 262143] [] [.q, .q, .q, .q, .q, .q, .q, .q, .q, .q, .q, .q, .q, .q, .q, .q, .q, .q, .q] [] [] [] (by kernel_rfl) (by kernel_rfl) rfl rfl (by kernel_rfl) (by kernel_rfl) ?_
     refine y_val (r_move (v := .pointer _) rfl rfl) rfl rfl ?_
     refine y_val (r_nilCheck rfl rfl) rfl rfl ?_
     refine y_val (r_fieldAddr 0 Tryz.underlying124 rfl tyA31.size rfl rfl rfl) rfl rfl ?_
     refine y_val (r_fieldAddr 0 Tryz.underlying31 rfl tyA26.size rfl rfl rfl) rfl rfl ?_
     refine y_loadP 0 tyA26 rfl rfl rfl rfl rfl (by rw [List.length_append, boC_len]; omega) (show _ = ([.int .u8 r3.1.s.k, .int .i64 r3.1.s.d, .int .i64 r3.1.s.g, .int .u64 r3.1.s.p, .int .u64 r3.1.s.q, .int .u64 r3.1.s.r] : List Value) from rfl) (by decide) ?_
     refine y_val (r_move (v := .pointer _) rfl rfl) rfl rfl ?_
     refine y_val (r_nilCheck rfl rfl) rfl rfl ?_
     refine y_val (r_fieldAddr 29 Tryz.underlying124 rfl tyA38.size rfl rfl rfl) rfl rfl ?_
     refine y_val (r_fieldAddr 30 Tryz.underlying38 rfl tyC33.size rfl rfl rfl) rfl rfl ?_
     refine y_loadC 0 tyC33 rfl rfl rfl rfl rfl rfl (by decide) ?_
     refine yI ?_
     refine y_val (r_indexAddrSlB (n := y.1) Tryz.underlying33 tyA64.size rfl (congrArg (fun a => Value.slice a z.t.l.length z.lc) hla) rfl (by omega)) rfl rfl ?_
     refine y_loadR2 tyA64 (fun L2 w hs hC => (hB2.at hC (((((List.sublist_append_right _ z.bl).trans (List.sublist_append_left _ BsS)).trans (List.sublist_append_left _ BO)).trans (List.sublist_append_right [_] _)).trans hs.pre)).cells (by omega)) rfl rfl rfl rfl ?_
     refine y_callX 0 (g_Split r3.1.s (qn z.t.l y.1) (qm z.t.l y.1) (by rw [hs3]; exact hst) (by rw [hs3]; exact hsubs _ (by omega)) (by rw [hs3]; exact h1)) en107 rfl rfl (fun _ _ _ _ => trivial) rfl rfl ?_
     refine y_tail ?_
     refine y_made ?_
     rintro _ _ ⟨aS, cS, rfl, hOS⟩
     obtain ⟨gs, curS, rfl, rfl, -, -, htS⟩ := hOS.row (by omega)
     rw [hs3] at htS
     refine y_val (r_move (v := .tuple _) rfl rfl) rfl rfl ?_
     refine y_val (r_extract (v := .slice _ _ _) rfl rfl rfl) rfl rfl ?_
     refine y_val (r_extract (v := .int _ _) rfl rfl rfl) rfl rfl ?_
     refine y_val (r_assign (v := .slice _ _ _) rfl rfl) rfl rfl ?_
     refine y_val (r_assign (v := .int _ _) rfl rfl) rfl rfl ?_
     refine y_end ?_
     intro W hW
     refine n_then (c_reg ?_)
     refine aP ?_
     refine aP ?_
     refine l_val (r_nilCheck rfl rfl) rfl rfl ?_
     refine l_val (r_fieldAddr 29 Tryz.underlying124 rfl tyA38.size rfl rfl rfl) rfl rfl ?_
     refine l_val (r_fieldAddr 30 Tryz.underlying38 rfl tyC33.size rfl rfl rfl) rfl rfl ?_
     refine dC hW 1 tyC33 ?_
     refine aI ?_
     refine aI ?_
     refine l_val (r_addN (n := 1) rfl rfl rfl (by omega)) rfl rfl ?_
     refine aS ?_
     replace hW := pickB hW
     rw [hbl2] at hW
     refine l_callS (B := [_]) (L := [_] ++ ((L ++ z.bn) ++ [⟨gs, curS, 64⟩])) (g_ReplaceB gr z.t.l.length z.lc y.1 gs cS cur (sl2 z.t.l) curS (sl2 (splitV z.t.b.s (qn z.t.l y.1) (qm z.t.l y.1))) hls2 (by omega) (sl2_one _) htS (by rw [sl2_len, hsp2]) (sl2_one _) (by omega)) hW en108 (by simp) rfl rfl (by show [Value.slice z.la _ _, _, _, _] = _; rw [hla]; rfl) rfl ?_
     rintro _ B9 W ⟨a9, c9, rfl, hO9⟩ hW
     replace hW := hW.perm List.perm_append_comm
     replace hO9 := hO9.castx hln (xs' := sl2 tk) (by rw [htk2, sl2_append, sl2_append, sl2_take, sl2_drop])
     rw [hln]
     refine l_val (r_nilCheck rfl rfl) rfl rfl ?_
     refine l_val (r_fieldAddr 29 Tryz.underlying124 rfl tyA38.size rfl rfl rfl) rfl rfl ?_
     refine l_val (r_fieldAddr 30 Tryz.underlying38 rfl tyC33.size rfl rfl rfl) rfl rfl ?_
     refine l_storeC hW 0 tyC33 (v := .slice a9 tk.length c9) rfl rfl rfl rfl rfl rfl (trR_len (by decide)) rfl ?_
     intro W hW
     refine l_end (n_block (n_then ?_))
     have hround : roundN (2 * nn + 1) z.t = (⟨r3.1, tk, tm, r3.2.2⟩, 0) := by rw [round_0 (hsa1.trans (by rw [hc1])) hsa2 (hsa3.trans (by rw [hc4])), htk, htm]
     have hin := (hrnd.1 (by rw [hround])).1
     have hpt := (hrnd.1 (by rw [hround])).2
     rw [hround] at hin hpt
     exact loop_next ⟨⟨r3.1, tk, tm, r3.2.2⟩, t, [], z.n2, z.bn, a9, c9, B9⟩ (by kernel_rfl) (pickC (show Cl _ (([⟨gx, boC r3.1 t ++ trR nn z.n2 ⟨a9, tk.length, c9⟩ r3.2.2 0, 124⟩] ++ ((L ++ z.bn) ++ [_])) ++ B9) _ from hW)) ⟨hin, heq.trans ((traced_0 hs hnd hrg ht (by rw [hround])).trans (by rw [hround])), by rw [htm2]; exact hnm, hO9⟩ hpt
   ·intro hc4
    refine l_val (r_not rfl rfl) rfl rfl ?_
    refine l_end (n_then ?_)
    refine c_true rfl ?_
    refine c_seq (c_reg ?_)
    refine aP ?_
    refine l_val (r_nilCheck rfl rfl) rfl rfl ?_
    refine l_val (r_fieldAddr 29 Tryz.underlying124 rfl tyA38.size rfl rfl rfl) rfl rfl ?_
    refine l_val (r_fieldAddr 32 Tryz.underlying38 rfl tyC5.size rfl rfl rfl) rfl rfl ?_
    refine l_storeC hW 0 tyC5 (v := .int .u8 2) rfl rfl rfl rfl rfl rfl (trR_len (by decide)) rfl ?_
    intro W hW
    replace hW := (show Cl _ ([⟨gx, boC r3.1 t ++ trR nn z.n2 ⟨z.la, z.t.l.length, z.lc⟩ r3.2.2 2, 124⟩] ++ ((((L ++ z.bn) ++ z.bl) ++ BsS) ++ BO)) _ from hW)
    refine l_end (n_then (c_exit (x_then ?_)))
    refine x_miss (by decide) ?_
    refine x_then ?_
    refine x_hit ?_
    refine n_scope ?_
    refine end_none rfl ?_
    have hround : roundN (2 * nn + 1) z.t = (⟨r3.1, z.t.l, z.t.nm, r3.2.2⟩, 2) := round_2 (hsa1.trans (by rw [hc1])) hsa2 (hsa3.trans (by rw [hc4]))
    have hR : traced (2 * nn + 1) ⟨q, l, [], 0⟩ = (⟨r3.1, z.t.l, z.t.nm, r3.2.2⟩, 2) := heq.trans ((traced_e (by rw [hround]; exact (show (2 : Nat) ≠ 0 by decide))).trans hround)
    exact ⟨_, _, rfl, ⟨z.n2, z.la, z.lc, z.bn, z.bl, by rw [hR], by rw [hR]; exact hnm, by rw [hR]; exact hls⟩, pickF hW⟩
 ·intro hc1
  refine l_val (r_not rfl rfl) rfl rfl ?_
  refine l_end (n_then ?_)
  refine c_true rfl ?_
  refine c_seq (c_reg ?_)
  refine aP ?_
  refine l_val (r_nilCheck rfl rfl) rfl rfl ?_
  refine l_val (r_fieldAddr 29 Tryz.underlying124 rfl tyA38.size rfl rfl rfl) rfl rfl ?_
  refine l_val (r_fieldAddr 32 Tryz.underlying38 rfl tyC5.size rfl rfl rfl) rfl rfl ?_
  refine l_storeC hW 0 tyC5 (v := .int .u8 1) rfl rfl rfl rfl rfl rfl (trR_len (by decide)) rfl ?_
  intro W hW
  replace hW := (show Cl _ ([⟨gx, boC r1.1 t ++ trR nn z.n2 ⟨z.la, z.t.l.length, z.lc⟩ r1.2.2 1, 124⟩] ++ ((((L ++ z.bn) ++ z.bl) ++ BsS) ++ BO)) _ from hW)
  refine l_end (n_then (c_exit (x_then ?_)))
  refine x_miss (by decide) ?_
  refine x_then ?_
  refine x_hit ?_
  refine n_scope ?_
  refine end_none rfl ?_
  have hround : roundN (2 * nn + 1) z.t = (⟨r1.1, z.t.l, z.t.nm, r1.2.2⟩, 1) := round_1 (hsa1.trans (by rw [hc1]))
  have hR : traced (2 * nn + 1) ⟨q, l, [], 0⟩ = (⟨r1.1, z.t.l, z.t.nm, r1.2.2⟩, 1) := heq.trans ((traced_e (by rw [hround]; exact (show (1 : Nat) ≠ 0 by decide))).trans hround)
  exact ⟨_, _, rfl, ⟨z.n2, z.la, z.lc, z.bn, z.bl, by rw [hR], by rw [hR]; exact hnm, by rw [hR]; exact hls⟩, pickF hW⟩

end Go.Proofs.YtoegpalacppllaaGreat

/- A region that draws its order, as in Or2, after one more quiet operation that waits for nothing. -/
namespace Go.Proofs.YtoegpalacppllaaGreat
open Go.RowKit
def closedB (md : Region.Mode) (ops : Array Oper) (d : Array Bool) : Bool := (List.range ops.size).all fun j => !d.getD j false || match ops[j]? with | some o => o.after.all fun e => !Region.binds md e || d.getD e.on false | none => true
section
variable {P : Program} {ops : Array Oper} {Q : Exit → Act → World → Prop} {a : Act} {w0 : Base} {W : World} {L : List Blk} {md : Region.Mode} {S : List Nat} {r : Option (Option Nat)} {m : Nat} {ms : List Mk} {bs : List Value} {us : List (Nat × Value)} {ds : List Deferred}
theorem closedB_spec {d : Array Bool} (h : closedB md ops d = true) : Closed md ops d := by
  intro j oj hj hd e he hb
  have h1 := List.all_eq_true.1 h j (List.mem_range.2 (Array.getElem?_eq_some_iff.1 hj).1)
  simp only [hd, hj, Bool.not_true, Bool.false_or] at h1
  have h2 := Array.all_eq_true_iff_forall_mem.1 h1 e he
  simpa [hb] using h2
def regionW4 (d0 : Array Bool) (ops : Array Oper) (ks ks2 : List Kd) (D ix M D2 ix2 ord rest zs : List Nat) : Bool :=
  Region.noSelect ops && closedB .any ops d0 && (ix.all fun i => !d0.getD i false) && allB .any ops D ix (fun j => ks.getD j .tail) && masksB .any ops M && allB .any ops D2 ix2 (fun j => ks2.getD j .tail) && ((zs ++ (ord ++ rest)).all fun k => Nat.blt k ops.size) && (zs.all fun z => !d0.getD z true) &&
    zsB ops D ix (fun j => ks.getD j .tail) zs && zchB .any ops [] zs && decide zs.Nodup && (zs.all fun z => match ks2.getD z .tail with | .q => true | _ => false) &&
    lexO .any ops (fun j => ks.getD j .tail) ix M (fun o done => (o == rest) && ((zs.all fun z => done.getD z false) && (ix2.all fun i => !zs.contains i && !done.getD i false) && lexO .any ops (fun j => ks2.getD j .tail) ix2 M (fun o done => seqO .any ops o done) (zs ++ rest) (setA false done zs))) (ord ++ rest) (setA true d0 zs)

theorem AW_W (hW : Cl w0 L W) (d0 : Array Bool) {os : List Oper} (S : List Nat) (ks : List Kd) (ms : List Mk) (V : List (List Value)) (ix M S2 : List Nat) (ks2 : List Kd) (D2 ix2 ord rest zs : List Nat) (hB : regionW4 d0 os.toArray ks ks2 (ms.map Mk.d) ix M D2 ix2 ord rest zs = true) (hV : V.length = ms.length) (hd : (ms.all fun k => Nat.blt k.d bs.length) = true) (hd2 : (D2.all fun k => Nat.blt k bs.length) = true)
    (l : Zl) (hlz : l.map (·.1) = zs) (hat : Zat os.toArray l) (hzr : ZevL P w0 S L bs us l)
    (h : lx P os.toArray w0 S ms (fun _ _ => False)
      (fun _ a' s' => Full ms s'.2 a' s'.1 fun a' L' => ∃ (ms2 : List Mk) (V2 : List (List Value)), (ms2.map Mk.d = D2 ∧ V2.length = ms2.length) ∧ lx P os.toArray w0 S2 ms2 (fun a' s' => Full ms2 s'.2 a' s'.1 fun a' L' => ∀ w', Cl w0 L' w' → Q .normal a' w') (fun l' a' s' => Full ms2 s'.2 a' s'.1 fun a' L' => ∀ w', Cl w0 L' w' → LW r m P os.toArray Q l' a' w') ((zs ++ rest).map fun j => ks2.getD j .tail) (pickL os.toArray (zs ++ rest)) a' (L', V2)) ((ord ++ rest).map fun j => ks.getD j .tail) (pickL os.toArray (ord ++ rest)) (fr bs us ds) (L, V)) : AW r m P .any os.toArray Q ((ord ++ rest).length + zs.length) d0 (fr bs us ds) W := by
  subst hlz
  simp only [regionW4, Bool.and_eq_true, decide_eq_true_eq] at hB
  obtain ⟨⟨⟨⟨⟨⟨⟨⟨⟨⟨⟨⟨hsel, hc0B⟩, hix0⟩, hall⟩, hM⟩, hall2⟩, hv⟩, hz0⟩, hzB⟩, hch⟩, hnd⟩, hkz⟩, hlex⟩ := hB
  have hz := zsB_spec hat hzB
  have hchain := zchB_spec hat hch
  have hkz' : ∀ z ∈ l.map (·.1), ks2.getD z .tail = .q := fun z hz => by
    have := List.all_eq_true.1 hkz z hz
    cases hk : ks2.getD z .tail <;> rw [hk] at this <;> first | rfl | cases this
  have hv' : ∀ k ∈ l.map (·.1) ++ (ord ++ rest), k < os.toArray.size := fun k hk => by
    have := List.all_eq_true.1 hv k hk
    rwa [Nat.blt_eq] at this
  have sz : ∀ {k : Mk} {l : List Mk}, (l.all fun k => Nat.blt k.d bs.length) = true → k ∈ l → k.d < (fr bs us ds).tmps.size := fun hl hk => by
    have := List.all_eq_true.1 hl _ hk
    rw [Nat.blt_eq] at this
    simpa [fr, toL_len] using this
  have hz0' : ∀ x ∈ l, d0.getD x.1 true = false := fun x hx => by
    have := List.all_eq_true.1 hz0 x.1 (List.mem_map.2 ⟨x, hx, rfl⟩)
    simpa using this
  have hZ : ZokL P w0 S L (fr bs us ds) l := ZevL.ok l us hzr
  obtain ⟨T, hT⟩ : ∃ T : Act → List Blk → Prop, T = fun a' L' => ∃ (ms2 : List Mk) (V2 : List (List Value)), (ms2.map Mk.d = D2 ∧ V2.length = ms2.length) ∧ lx P os.toArray w0 S2 ms2 (fun a' s' => Full ms2 s'.2 a' s'.1 fun a' L' => ∀ w', Cl w0 L' w' → Q .normal a' w') (fun l' a' s' => Full ms2 s'.2 a' s'.1 fun a' L' => ∀ w', Cl w0 L' w' → LW r m P os.toArray Q l' a' w') ((l.map (·.1) ++ rest).map fun j => ks2.getD j .tail) (pickL os.toArray (l.map (·.1) ++ rest)) a' (L', V2) := ⟨_, rfl⟩
  rw [← hT] at h
  obtain ⟨ck, hck⟩ : ∃ ck : Array Bool → Bool, ck = fun done => ((l.map (·.1)).all fun z => done.getD z false) && (ix2.all fun i => !(l.map (·.1)).contains i && !done.getD i false) && lexO .any os.toArray (fun j => ks2.getD j .tail) ix2 M (fun o done => seqO .any os.toArray o done) (l.map (·.1) ++ rest) (setA false done (l.map (·.1))) := ⟨_, rfl⟩
  have lay2 : ∀ (l : List Nat) (done : Array Bool) (a : Act) (L' : List Blk) (w : World) (ms2 : List Mk) (V2 : List (List Value)), (∀ k ∈ l, k < os.toArray.size) → Closed .any os.toArray done → (∀ i ∈ ix2, done.getD i false = false) → ms2.map Mk.d = D2 → V2.length = ms2.length → a.tmps.size = (fr bs us ds).tmps.size →
      lexO .any os.toArray (fun j => ks2.getD j .tail) ix2 M (fun o done => seqO .any os.toArray o done) l done = true → lx P os.toArray w0 S2 ms2 (fun a' s' => Full ms2 s'.2 a' s'.1 fun a' L' => ∀ w', Cl w0 L' w' → Q .normal a' w') (fun l' a' s' => Full ms2 s'.2 a' s'.1 fun a' L' => ∀ w', Cl w0 L' w' → LW r m P os.toArray Q l' a' w') (l.map fun j => ks2.getD j .tail) (pickL os.toArray l) a (L', V2) → Cl w0 L' w → AW r m P .any os.toArray Q l.length done a w := by
    intro l done a L' w ms2 V2 hl hc hix hD hV2 hsz ht hk hC
    subst hD
    have h1 := anyC_lexO (P := P) (w0 := w0) (S := S2) (ms := ms2) (md := .any) (kd := fun j => ks2.getD j .tail) (ix := ix2) (U := fun f done a s => ∃ o, o.length = f ∧ seqO .any os.toArray o done = true ∧ Full ms2 s.2 a s.1 fun a' L' => ∀ w', Cl w0 L' w' → LW r m P os.toArray Q (pickL os.toArray o) a' w') hM hsel (fun o done a s _ ht hT => ⟨o, rfl, ht, hT⟩) l done a (L', V2) hl hc ht hk
    have h2 := anyC_any (N := a.tmps.size) (P := P) (r := r) (m := m) (Q := Q) (ms := ms2) (allB_spec hall2) (Region.noSelect_spec hsel)
      (fun a s vs Ns w hM hs hC hR => by obtain ⟨L', hp, hk⟩ := Full.use hM hs hR; exact hk w (hC.perm hp)) (fun f done a s vs Ns w hM hs hC _ ⟨o, hf, ht, hT⟩ => by obtain ⟨L', hp, hk⟩ := Full.use hM hs hT; subst hf; exact AW_seqO o done _ w ht (hk w (hC.perm hp))) l.length done a (L', V2) _ _ w (none_made ms2 V2 hV2) (made0 hix) (fun k hk => by rw [hsz]; exact sz (by simpa [List.all_map, Function.comp_def] using hd2) hk) rfl (by
        have : (List.replicate ms2.length ([] : List Blk)).flatten = [] := by simp
        rw [this, List.append_nil]
        exact hC) h1
    rw [none_puts] at h2
    exact h2
  have H : AW r m P .any os.toArray Q ((ord ++ rest).length + (l.map (·.1)).length) d0 (fr bs us ds) W := by
    have hc0 : ∀ (l : Zl) (pre : List Nat) (d : Array Bool), Zat os.toArray l → zchain .any pre l → Closed .any os.toArray d → (∀ i ∈ pre, d.getD i false = true) → (∀ x ∈ l, x.1 < d.size) → Closed .any os.toArray (zset d l) := by
      intro l
      induction l with
      | nil => intro pre d _ _ h _ _; exact h
      | cons x l ih =>
        intro pre d hat hch hc hpre hlt
        refine ih (x.1 :: pre) _ hat.2 hch.2.2 ?_ (fun i hi => ?_) (fun y hy => by simpa using hlt y (by simp [hy]))
        · intro j oj hj hd e he hb
          have hmono : ∀ i, d.getD i false = true → (d.setIfInBounds x.1 true).getD i false = true := fun i h => by
            by_cases hx : x.1 = i
            · subst hx; simp [hlt x (by simp)]
            · rw [getD_set_ne false hx]; exact h
          by_cases hjx : x.1 = j
          · subst hjx
            obtain rfl : oj = x.2.1 := Option.some.inj (hj.symm.trans hat.1)
            exact hmono _ (hpre _ (hch.1 e he hb))
          · rw [getD_set_ne false hjx] at hd
            exact hmono _ (hc j oj hj hd e he hb)
        · rcases List.mem_cons.1 hi with rfl | hi
          · simp [hlt x (by simp)]
          · by_cases hx : x.1 = i
            · subst hx; simp [hlt x (by simp)]
            · rw [getD_set_ne false hx]; exact hpre i hi
    have hcl := hc0 l [] d0 hat hchain (closedB_spec hc0B) (by simp) (fun x hx => getD_false_lt (hz0' x hx))
    rw [← zset_A] at hlex
    have h1 := anyC_lexO (P := P) (w0 := w0) (S := S) (ms := ms) (md := .any) (kd := fun j => ks.getD j .tail) (ix := ix) (R := fun _ _ => False) (T := fun _ a' s' => Full ms s'.2 a' s'.1 T) (U := fun f done a s => f = rest.length ∧ Closed .any os.toArray done ∧ ck done = true ∧ Full ms s.2 a s.1 T)
      hM hsel (fun o done a s hc ht hT => by
        simp only [Bool.and_eq_true, beq_iff_eq] at ht
        refine ⟨by rw [ht.1], hc, ?_, hT⟩
        rw [hck]
        simp only [Bool.and_eq_true]; exact ht.2) (ord ++ rest) (zset d0 l) (fr bs us ds) (L, V) (fun k hk => hv' k (List.mem_append.2 (.inr hk))) hcl hlex h
    have h2 := anyC_zs (N := (fr bs us ds).tmps.size) (P := P) (r := r) (m := m) (Q := Q) (L0 := L) (allB_spec hall) (Region.noSelect_spec hsel) l [] _ hz hchain hnd
      (fun p q hpq f done a s vs Ns w hMd hs hC hsz hcq hdq hSZ ⟨hf, hc, ht, hF⟩ => by
        rw [hck] at ht
        simp only [Bool.and_eq_true] at ht
        obtain ⟨⟨hzt, hix⟩, ht⟩ := ht
        obtain ⟨L', hp, hk⟩ := Full.use hMd hs hF
        rw [hT] at hk
        obtain ⟨ms2, V2, ⟨hD, hV2⟩, hk⟩ := hk
        subst hf
        have hmap : l.map (·.1) = p.map (·.1) ++ q.map (·.1) := by rw [hpq, List.map_append]
        have hcd : Closed .any os.toArray done := by
          cases q with
          | nil => exact hc
          | cons y q => exact hcq (by simp)
        have hback : setA true (setA false (zset done q) (l.map (·.1))) (p.map (·.1)) = done := by
          rw [hmap, zset_A]
          refine setA_back (fun i hi => ?_) (fun i hi => ?_) (by rw [← hmap]; exact hnd)
          · obtain ⟨y, hy, rfl⟩ := List.mem_map.1 hi
            exact hdq y hy
          · rw [← hmap] at hi
            rw [← zset_A]
            exact List.all_eq_true.1 hzt i hi
        rw [hmap, List.append_assoc] at hk
        rw [hmap, List.append_assoc, ← hmap] at ht
        have ht' := lexO_peel (p.map (·.1)) (fun z hz => hkz' z (by rw [hmap]; simp only [List.mem_append]; exact .inl hz)) ht
        rw [hback] at ht'
        have hln : rest.length + q.length = (q.map (·.1) ++ rest).length := by simp [Nat.add_comm]
        rw [hln]
        refine lay2 (q.map (·.1) ++ rest) done _ L' w ms2 V2 (fun k hk => hv' k ?_) hcd (fun i hi => ?_) hD hV2 (by rw [puts_size, zput_size, hsz]) ht' ?_ (hC.perm hp)
        · rcases List.mem_append.1 hk with h | h
          · exact List.mem_append.2 (.inl (by rw [hmap]; exact List.mem_append.2 (.inr h)))
          · exact List.mem_append.2 (.inr (List.mem_append.2 (.inr h)))
        · have := List.all_eq_true.1 hix i hi
          simp only [Bool.and_eq_true, Bool.not_eq_true'] at this
          have h2 := this.2
          rw [zset_ne q false fun y hy e => ?_] at h2
          · exact h2
          · have h3 := this.1
            have : (l.map (·.1)).contains i = true := by
              rw [List.contains_iff_mem, ← e, hmap]
              exact List.mem_append.2 (.inr (List.mem_map.2 ⟨y, hy, rfl⟩))
            rw [this] at h3; cases h3
        · cases p with
          | nil => exact hk
          | cons x p =>
            obtain ⟨hS, hZ⟩ := hSZ (by rw [hpq]; simp)
            have hZp : ∀ (p q : Zl) (a : Act), ZokL P w0 S L a (p ++ q) → ZokL P w0 S L a p := by
              intro p
              induction p with
              | nil => intro q a _; trivial
              | cons y p ih => intro q a h; exact ⟨h.1, ih q _ h.2⟩
            rw [hpq] at hZ
            refine lx_peel (kd := fun j => ks2.getD j .tail) (hC.perm hp) ⟨_, hS.trans (Sim.more S s.1 Ns.flatten), hC⟩ (Region.noSelect_spec hsel) (x :: p) (q.map (·.1) ++ rest) a (fun y hy => ?_) (fun y hy => ?_) (hZp _ _ _ hZ) hk
            · have hyl : y ∈ l := by rw [hpq]; exact List.mem_append.2 (.inl hy)
              exact ⟨(hz y hyl).at_, (hz y hyl).guard, (hz y hyl).ds⟩
            · exact hkz' y.1 (List.mem_map.2 ⟨y, by rw [hpq]; exact List.mem_append.2 (.inl hy), rfl⟩))
      (ord ++ rest).length d0 (fr bs us ds) (L, V) _ _ W (Sim.refl _ _) hZ (closedB_spec hc0B) hz0' (by simp) (none_made ms V hV) (made0 fun i hi => by
        have := List.all_eq_true.1 hix0 i hi
        simpa using this) (fun k hk => sz hd hk) rfl (by
        have : (List.replicate ms.length ([] : List Blk)).flatten = [] := by simp
        rw [this, List.append_nil]
        exact hW) h1
    rw [none_puts] at h2
    rw [List.length_map]
    exact h2
  exact H
def regionM (ops : Array Oper) (y n : Nat) : Bool := Region.noSelect ops && Region.free .any ops (Array.replicate ops.size false) y && (Region.ready .any ops (Array.replicate ops.size false)).contains y && (n + 1 == ops.size)
/-- a move that waits for nothing, then what Or2 can do -/
theorem c_regMv (hW : Cl w0 L W) {id : Nat} {os : List Oper} (y dy : Nat) (oy : Oper) (vy : Value) (S : List Nat) (ks : List Kd) (ms : List Mk) (V : List (List Value)) (ix M S2 : List Nat) (ks2 : List Kd) (D2 ix2 ord rest zs : List Nat) (hm : P.follows .mixedOrders = true)
    (hy : os.toArray[y]? = some oy) (hdy : oy.dst = some dy) (hgy : oy.guard = none) (hvy : ∀ w, (execOp (ev bs us) oy).run P w = .ok (.value vy) w) (hQ : ∀ c a w, Q (.panic c) (a.put oy.dst vy) w → Q (.panic c) a w) (hM : regionM os.toArray y ((ord ++ rest).length + zs.length) = true)
    (hB : regionW4 ((Array.replicate os.toArray.size false).setIfInBounds y true) os.toArray ks ks2 (ms.map Mk.d) ix M D2 ix2 ord rest zs = true) (hV : V.length = ms.length) (hd : (ms.all fun k => Nat.blt k.d bs.length) = true) (hd2 : (D2.all fun k => Nat.blt k bs.length) = true)
    (l : Zl) (hlz : l.map (·.1) = zs) (hat : Zat os.toArray l) (hzr : ZevL P w0 S L bs ((dy, vy) :: us) l)
    (h : lx P os.toArray w0 S ms (fun _ _ => False)
      (fun _ a' s' => Full ms s'.2 a' s'.1 fun a' L' => ∃ (ms2 : List Mk) (V2 : List (List Value)), (ms2.map Mk.d = D2 ∧ V2.length = ms2.length) ∧ lx P os.toArray w0 S2 ms2 (fun a' s' => Full ms2 s'.2 a' s'.1 fun a' L' => ∀ w', Cl w0 L' w' → Q .normal a' w') (fun l' a' s' => Full ms2 s'.2 a' s'.1 fun a' L' => ∀ w', Cl w0 L' w' → LW none m P os.toArray Q l' a' w') ((zs ++ rest).map fun j => ks2.getD j .tail) (pickL os.toArray (zs ++ rest)) a' (L', V2)) ((ord ++ rest).map fun j => ks.getD j .tail) (pickL os.toArray (ord ++ rest)) (fr bs ((dy, vy) :: us) ds) (L, V)) : CW none m P (Code.region id os.toArray true) Q (fr bs us ds) W := by
  simp only [regionM, Bool.and_eq_true, beq_iff_eq] at hM
  obtain ⟨⟨⟨hs, hf⟩, hr⟩, hn⟩ := hM
  have h0 : ∀ F, F = os.toArray.size → wpAny P .any os.toArray Q F (Array.replicate os.toArray.size false) (fr bs us ds) W.drew → CW none m P (Code.region id os.toArray true) Q (fr bs us ds) W := fun F hF h => by subst hF; exact wp_region_any hm h
  refine h0 _ hn ?_
  have h1 := AW_W (r := none) (m := m) hW.drew ((Array.replicate os.toArray.size false).setIfInBounds y true) S ks ms V ix M S2 ks2 D2 ix2 ord rest zs hB hV hd hd2 l hlz hat hzr h
  refine wpAny_take hy hs hf hr hQ (.inl ⟨by simp [Region.wanted, hgy], fun w => by rw [eval_ev]; exact hvy w⟩) ?_
  rw [hdy, put_st]
  exact h1
end
end Go.Proofs.YtoegpalacppllaaGreat

/- A trace, by the program, with its errors. -/
namespace Go.Proofs.YtoegpalacppllaaGreat
open Go.RowKit Pl
open Tr Hn
theorem traced_ask {N : Nat} {b0 : Bo} {tot : List Int} (hs : schB b0.s = true) (ht : tot.Nodup) (hr : ∀ x ∈ tot, 0 ≤ x ∧ x < 64) : ∀ {k : Nat} {t : Ts}, Tin N b0 tot t → Askd b0 (tracedN N k t).1.b (tracedN N k t).1.a
 | 0, t, hi => hi.ask
 | k + 1, t, hi => by
  obtain ⟨h1, h2, -⟩ := hi.round hs ht hr
  by_cases h : (roundN N t).2 = 0
  ·rw [tracedN_0 h]; exact traced_ask hs ht hr (h1 h).1
  ·rw [tracedN_e h]; exact h2
theorem pickT2 {b : Base} {W : World} {x : Blk} {X A B : List Blk} (h : Cl b ((x :: B) ++ (X ++ A)) W) : Cl b (((x :: X) ++ A) ++ B) W := h.perm (by classical exact List.perm_iff_count.2 fun y => by simp only [List.count_append, List.count_cons]; omega)
theorem pickT3 {b : Base} {W : World} {X A B : List Blk} (h : Cl b ((X ++ A) ++ B) W) : Cl b (B ++ A) W := h.pick X (by classical exact List.perm_iff_count.2 fun y => by simp only [List.count_append]; omega)
theorem bld_tr (b : Bo) (t : Sl) (n : Int) (x0 x1 x2 x3 : Value) : ∀ w, (Instr.build 124 [(0, .agg (boC b t).toArray), (1, .int .i64 n), (2, .agg [x0, x1, x2, x3].toArray)].toArray).run Tryz.prog w = .ok (.agg (boC b t ++ [.int .i64 n, x0, x1, x2, x3]).toArray) w := fun _ => by kernel_rfl
set_option maxRecDepth 10000 in
set_option maxHeartbeats 2000000 in
/-- headend/trace.Trace -/
theorem g_Trace (b : Bo) (t : Sl) (ra : Option Addr) (rn rc : Nat) (l : List (Int × Int)) (noise : Int) (hl : b.l.length ≤ 100) (hq : l.length ≤ 5000) : GivesX Tryz.prog 18 [.agg (boC b t).toArray, .slice ra rn rc, .int .i64 noise].toArray (fun w => RdI w t b.l ∧ RdB w ⟨ra, rn, rc⟩ l) (fun v Bs => ∃ fv bv : List Value, v = .tuple #[.agg fv.toArray, .agg bv.toArray, .int .i64 (traceE b l noise)] ∧ foundX 64 (traceT b l noise) fv bv Bs) := by
 refine givesX_of Tryz.func18 rfl (bs := [.agg (boC b t).toArray, .slice ra rn rc, .int .i64 noise, undef, undef, undef, undef, undef, undef, undef, undef, undef, undef, undef, undef, undef, undef, undef, undef, undef, undef, undef, undef, undef, undef, undef, undef, undef, undef, undef, undef, undef, undef, undef, undef, undef, undef, undef, undef, undef, undef, undef, undef, undef, undef, undef, undef, undef, undef, undef, undef, undef, undef, undef, undef, undef, undef, undef, undef, undef, undef, undef, undef, undef, undef, undef]) rfl ?_
 intro w hP hW
 refine c_seq (c_reg ?_)
 refine xB hW ?_
 intro g1 W hW
 refine l_alloc hW tyZ38 rfl rfl rfl ?_
 intro g2 W hW
 refine l_alloc hW tyZ31 rfl rfl rfl ?_
 intro g3 W hW
 refine bI ?_
 refine l_end (n_then (c_seq (c_reg ?_)))
 refine dA hW 2 tyA31 ?_
 refine l_callR hW (g_CheckBox b t hl) en36 (hP.1.past hW.below) rfl rfl rfl rfl ?_
 intro W hW
 refine bI ?_
 refine l_end (n_then (c_seq (c_seq (c_reg ?_))))
 refine aI ?_
 refine l_val (r_eql rfl rfl rfl rfl) rfl rfl ?_
 refine l_split ?_ ?_
 ·intro hc1
  replace hc1 := of_decide_eq_true hc1
  obtain ⟨hs, hu, hb1, hb2, hb3, hb4, hb5, hb6, hb7, hb8, hb9, hb10⟩ := chkB_ok (fun e => e hc1)
  refine l_end (n_then ?_)
  refine c_true rfl ?_
  refine c_reg ?_
  refine l_val (r_fieldAddr 0 Tryz.underlying31 rfl tyA26.size rfl rfl rfl) rfl rfl ?_
  refine l_loadP hW 2 tyA26 rfl rfl rfl rfl rfl (by first | rfl | omega | (simp; done) | (simp; omega)) rfl ?_
  refine aS ?_
  refine l_callR hW (g_CheckParts b.s ra rn rc l hq) en37 (hP.2.past hW.below) rfl rfl rfl rfl ?_
  intro W hW
  refine bI ?_
  refine l_end (n_then (c_seq (c_reg ?_)))
  refine l_val (r_fieldAddr 0 Tryz.underlying31 rfl tyA26.size rfl rfl rfl) rfl rfl ?_
  refine l_loadP hW 2 tyA26 rfl rfl rfl rfl rfl (by first | rfl | omega | (simp; done) | (simp; omega)) rfl ?_
  refine aI ?_
  refine l_call hW (g_Bound _ _) en44 rfl rfl rfl rfl ?_
  intro W hW
  refine l_val (r_move (v := .tuple _) rfl rfl) rfl rfl ?_
  refine l_val (r_extract (v := .int _ _) rfl rfl rfl) rfl rfl ?_
  refine l_val (r_extract (v := .int _ _) rfl rfl rfl) rfl rfl ?_
  refine bI ?_
  refine bI ?_
  refine l_end (n_then (c_seq (c_seq (c_reg ?_))))
  refine aI ?_
  refine l_val (r_eql rfl rfl rfl rfl) rfl rfl ?_
  refine l_split ?_ ?_
  ·intro hc2
   replace hc2 := of_decide_eq_true hc2
   obtain ⟨-, hpe, hnd⟩ := parts_ok (fun e => e hc2)
   obtain ⟨hq2, hbb⟩ := subsE_ok (show ¬ subsE b.s l ≠ 0 by omega)
   refine l_end (n_then ?_)
   refine c_true rfl ?_
   refine c_reg ?_
   refine aI ?_
   refine bI ?_
   refine l_end (n_then (c_seq (c_seq (c_reg ?_))))
   refine aI ?_
   refine l_val (r_eql rfl rfl rfl rfl) rfl rfl ?_
   refine l_split ?_ ?_
   ·intro hc3
    replace hc3 := of_decide_eq_true hc3
    have hbv0 : boundV b.s noise ≤ 17544 ∧ 0 ≤ boundV b.s noise := by
     have hno : 0 ≤ noise ∧ noise ≤ 8 := Classical.byContradiction fun h => absurd ((bound_arg hs h).2.symm.trans hc3) (by decide)
     rw [(bound_ok hs hno).1]
     have := schB_iff.1 hs
     have := lim_b (d := b.s.d) (n := noise) (by omega) (by omega) hno.1 hno.2
     omega
    refine aB ?_
    refine l_valG (r_fieldAddr 26 Tryz.underlying31 rfl tyC3.size rfl rfl rfl) (by kernel_rfl) rfl ?_
    refine dG hW 2 tyC3 ?_
    refine gI ?_
    refine l_valG (r_addZ rfl rfl rfl (by omega)) (by kernel_rfl) rfl ?_
    refine l_valG (r_gtr rfl rfl rfl rfl) (by kernel_rfl) rfl ?_
    refine l_split ?_ ?_
    ·intro hc4
     replace hc4 := of_decide_eq_true hc4
     refine kB ?_
     refine l_end (n_then ?_)
     refine c_true rfl ?_
     refine c_reg ?_
     refine bI ?_
     refine l_end (n_then (c_seq (c_seq (c_reg ?_))))
     refine aI ?_
     refine l_val (r_neq (b := true) rfl rfl rfl (by decide)) rfl rfl ?_
     refine l_end (n_then ?_)
     refine c_true rfl ?_
     refine c_seq (c_reg ?_)
     refine l_val (r_build (ps := []) (bld38_) rfl rfl) rfl rfl ?_
     refine l_val (r_build (ps := []) (bld31_) rfl rfl) rfl rfl ?_
     refine aI ?_
     refine sA hW 1 tyA38 ?_
     intro W hW
     refine sA hW 0 tyA31 ?_
     intro W hW
     refine bI ?_
     refine l_end (n_then (c_ret (r_then ?_)))
     refine ret_cell2_tmp hW 1 0 tyA38 tyA31 rfl rfl rfl rfl rfl (by first | rfl | exact kc_len _ | exact kcf_len _ | exact boC_len _ _ | (simp; done)) (by first | rfl | exact kc_len _ | exact kcf_len _ | exact boC_len _ _ | (simp; done)) rfl ?_
     have hno : 0 ≤ noise ∧ noise ≤ 8 := Classical.byContradiction fun h => absurd ((bound_arg hs h).2.symm.trans hc3) (by decide)
     have e : traceE b l noise = 9 := trE_f (fun e => e hc1) (fun e => e hc2) hno (by rw [← (bound_ok hs hno).1]; exact hc4)
     exact ⟨_, [], rfl, ⟨z38, z31, by rw [e]; rfl, by rw [traceT, if_neg (by rw [e]; decide), z38_no, z31_no]; exact found_no 64⟩, hW.sub (List.nil_sublist _)⟩
    ·intro hc4
     replace hc4 := of_decide_eq_false hc4
     refine kB ?_
     refine l_end (n_then ?_)
     refine c_false rfl ?_
     refine c_skip (n_then (c_seq (c_seq (c_reg ?_))))
     refine aI ?_
     refine l_val (r_neq rfl rfl rfl rfl) rfl rfl ?_
     refine l_split ?_ ?_
     ·intro hc5
      replace hc5 := of_decide_eq_true hc5
      exact absurd hc3 hc5
     ·intro hc5
      replace hc5 := of_decide_eq_false hc5
      have hno : 0 ≤ noise ∧ noise ≤ 8 := Classical.byContradiction fun h => absurd ((bound_arg hs h).2.symm.trans hc3) (by decide)
      have hbv := (bound_ok hs hno).1
      obtain ⟨nn, rfl⟩ : ∃ nn : Nat, noise = nn := ⟨noise.toNat, by omega⟩
      have hd0 := (schB_iff.1 hs).2.2.1
      have hln := lim_nat (d := b.s.d) (n := (nn : Int)) hd0 hno.1
      rw [Int.toNat_natCast] at hln
      have hbs6 : b.s.d ≤ 6 := (schB_iff.1 hs).2.2.2.1
      have hp6 := p2_le (n := b.s.d.toNat) (by omega)
      refine l_end (n_then ?_)
      refine c_false rfl ?_
      refine c_skip (n_then (c_seq (c_reg ?_)))
      refine l_val (r_fieldAddr 6 Tryz.underlying31 rfl tyC27.size rfl rfl rfl) rfl rfl ?_
      refine dC hW 2 tyC27 ?_
      refine l_callX hW (g_Clone t.a t.n t.c b.l (by omega)) en60 (hP.1.past hW.below) rfl rfl rfl rfl ?_
      rintro _ BC W ⟨s2, rfl, hNC⟩ hW
      refine l_val (r_fieldAddr 6 Tryz.underlying31 rfl tyC27.size rfl rfl rfl) rfl rfl ?_
      refine l_storeC hW 2 tyC27 (v := s2.v) rfl rfl rfl rfl rfl rfl (by rw [boC_len]; decide) rfl ?_
      intro W hW
      replace hW := (show Cl _ ([_, _, ⟨_, (boC b t).set 6 s2.v, _⟩] ++ BC) _ from hW)
      rw [boC_setL] at hW
      refine l_end (n_then (c_seq ?_))
      refine c_regMv hW 1 50 _ _ [] [.q, .q, .q, .mk 0, .tail, .tail, .tail, .tail] [⟨52, fun _ => NewSl 64 2 l.length (sl2 l)⟩] [[]] [3] [0, 0, 0, 4, 12, 31, 63, 127] [] [.q, .q, .q, .q, .q, .q, .tail, .tail] [] [] [2, 3] [4, 5, 6, 7] [0] (by kernel_rfl) rfl rfl rfl (r_move (v := .int _ _) rfl rfl) (fun _ _ _ h => by first | exact h | exact h.elim) (by kernel_rfl) (by kernel_rfl) rfl (by kernel_rfl) (by kernel_rfl) [(0, _, _)] rfl ⟨rfl, trivial⟩ ⟨fun _ w hs hC => run_loadP_at tyA31 2 rfl rfl (hs 2 _ (by decide) rfl) (by rw [boC_len]; decide) (take_all (boC_len _ _)) w hC, _, rfl, trivial⟩ ?_
      refine yS ?_
      refine y_callX 0 (g_CloneB ra rn rc l (by omega)) en61 rfl rfl (fun L2 w hs hC => hP.2.past hC.below) rfl rfl ?_
      refine y_tail ?_
      refine y_made ?_
      rintro _ BLc ⟨aL, cL, rfl, hOL⟩
      refine ⟨[], [], ⟨rfl, rfl⟩, ?_⟩
      refine y_loadA (BLc.length + 2) tyA31 rfl rfl rfl rfl (at_app rfl) (boC_len _ _) (by simp) ?_
      refine y_val (r_build (ps := [(1, .slice _ _ _)]) (bld38_1 _ _ _) rfl rfl) rfl rfl ?_
      refine y_val (r_build (ps := [(0, .agg _), (1, .int _ _), (2, .agg _)]) (bld_tr _ _ _ _ _ _ _) rfl rfl) rfl rfl ?_
      refine y_tail ?_
      intro W hW
      refine l_box hW (cs := boC b s2 ++ trR nn Sl.no ⟨aL, l.length, cL⟩ 0 0) rfl rfl rfl rfl ?_
      intro gx W hW
      refine l_val (r_assign (v := .pointer _) rfl rfl) rfl rfl ?_
      refine l_end (n_then (c_seq (c_reg ?_)))
      refine aP ?_
      refine l_callS (B := [_] ++ BLc) (L := [_, _, _] ++ BC) (g_run b s2 gx nn aL cL l BLc hOL hs hu (by omega) (by omega) (by omega) (by omega) (by omega) (by omega) hl (by omega) hbb hnd (by omega)) (show Cl _ (([_] ++ BLc) ++ ([_, _, _] ++ BC)) _ from hW) en62 (fun W hC => hNC.rep.at hC (List.sublist_append_right _ BC)) rfl rfl rfl rfl ?_
      rintro _ _ W ⟨n2, la2, lc2, BN, BL, rfl, h1, h2⟩ hW
      have htl : (traced (2 * nn + 1) ⟨b, l, [], 0⟩).1.b.l = b.l := (traced_ask hs hnd (fun x hx => by have := all_lt hx; omega) (Tin.first hs (by omega) (by omega) hbb hnd)).l
      obtain ⟨R, hR⟩ : ∃ R, R = traced (2 * nn + 1) ⟨b, l, [], 0⟩ := ⟨_, rfl⟩
      rw [← hR] at h1 h2 hW htl
      replace hW := pickT2 (X := [_, _, _]) hW
      refine l_end (n_then (c_seq ?_))
      refine c_regY hW [2, 1] [.q, .q, .q, .q, .q, .q, .q, .q, .s, .s, .q] [0, 1, 3, 7, 0, 16, 48, 112, 15, 511, 1023] (by kernel_rfl) (by kernel_rfl) ?_
      refine y_val (r_move (v := .pointer _) rfl rfl) rfl rfl ?_
      refine y_val (r_nilCheck rfl rfl) rfl rfl ?_
      refine y_val (r_fieldAddr 29 Tryz.underlying124 rfl tyA38.size rfl rfl rfl) rfl rfl ?_
      refine y_loadP 0 tyA38 rfl rfl rfl rfl rfl (trR_len (k := 32) (by decide)) (show _ = fiC n2 ⟨la2, R.1.l.length, lc2⟩ R.1.a R.2 from rfl) (by decide) ?_
      refine y_val (r_move (v := .pointer _) rfl rfl) rfl rfl ?_
      refine y_val (r_nilCheck rfl rfl) rfl rfl ?_
      refine y_val (r_fieldAddr 0 Tryz.underlying124 rfl tyA31.size rfl rfl rfl) rfl rfl ?_
      refine y_loadP 0 tyA31 rfl rfl rfl rfl rfl (by rw [List.length_append, boC_len]; omega) (boC_boxR _ _ _) (by decide) ?_
      refine y_storeA 2 tyA38 rfl rfl rfl rfl rfl rfl (by first | rfl | exact kc_len _ | exact kcf_len _ | exact boC_len _ _ | (simp; done)) (by first | rfl | exact kc_len _ | exact kcf_len _ | exact boC_len _ _ | (simp; done)) (by first | exact kc_one _ | exact kcf_one _ | exact boC_one _ _ | (simp [Value.oneCell']; done)) (by decide) ?_
      refine y_storeA 1 tyA31 rfl rfl rfl rfl rfl rfl (by first | rfl | exact kc_len _ | exact kcf_len _ | exact boC_len _ _ | (simp; done)) (by first | rfl | exact kc_len _ | exact kcf_len _ | exact boC_len _ _ | (simp; done)) (by first | exact kc_one _ | exact kcf_one _ | exact boC_one _ _ | (simp [Value.oneCell']; done)) (by decide) ?_
      refine y_val (r_assign (v := .int _ _) rfl rfl) rfl rfl ?_
      refine y_end ?_
      intro W hW
      refine n_then (c_ret ?_)
      refine ret_cell2_tmp hW 2 1 tyA38 tyA31 rfl rfl rfl rfl rfl (by first | rfl | exact kc_len _ | exact kcf_len _ | exact boC_len _ _ | (simp; done)) (by first | rfl | exact kc_len _ | exact kcf_len _ | exact boC_len _ _ | (simp; done)) rfl ?_
      have e : traceE b l nn = 0 := trE_0 (fun e => e hc1) (fun e => e hc2) hno (by rw [← (bound_ok hs hno).1]; exact hc4)
      exact ⟨_, (BN ++ BL) ++ BC, rfl, ⟨_, _, by rw [e]; rfl, by rw [traceT, if_pos e, Int.toNat_natCast, ← hR]; exact ⟨n2, la2, lc2, s2, BN, BL, BC, rfl, rfl, rfl, h1, h2, by rw [htl]; exact hNC⟩⟩, pickT3 (show Cl _ (([_, _, _, _] ++ BC) ++ (BN ++ BL)) _ from hW)⟩
   ·intro hc3
    replace hc3 := of_decide_eq_false hc3
    refine aB ?_
    refine lN ?_
    refine lN ?_
    refine lN ?_
    refine lN ?_
    refine lN ?_
    refine kB ?_
    refine l_end (n_then ?_)
    refine c_false rfl ?_
    refine c_skip (n_then (c_seq (c_seq (c_reg ?_))))
    refine aI ?_
    refine l_val (r_neq rfl rfl rfl rfl) rfl rfl ?_
    refine l_split ?_ ?_
    ·intro hc6
     replace hc6 := of_decide_eq_true hc6
     refine l_end (n_then ?_)
     refine c_true rfl ?_
     refine c_seq (c_reg ?_)
     refine l_val (r_build (ps := []) (bld38_) rfl rfl) rfl rfl ?_
     refine l_val (r_build (ps := []) (bld31_) rfl rfl) rfl rfl ?_
     refine aI ?_
     refine sA hW 1 tyA38 ?_
     intro W hW
     refine sA hW 0 tyA31 ?_
     intro W hW
     refine bI ?_
     refine l_end (n_then (c_ret (r_then ?_)))
     refine ret_cell2_tmp hW 1 0 tyA38 tyA31 rfl rfl rfl rfl rfl (by first | rfl | exact kc_len _ | exact kcf_len _ | exact boC_len _ _ | (simp; done)) (by first | rfl | exact kc_len _ | exact kcf_len _ | exact boC_len _ _ | (simp; done)) rfl ?_
     have hno : ¬ (0 ≤ noise ∧ noise ≤ 8) := fun h => hc3 (bound_ok hs h).2
     have hbe := (bound_arg hs hno).2
     have e : traceE b l noise = 2 := trE_n (fun e => e hc1) (fun e => e hc2) hno
     exact ⟨_, [], rfl, ⟨z38, z31, by rw [e, hbe]; rfl, by rw [traceT, if_neg (by rw [e]; decide), z38_no, z31_no]; exact found_no 64⟩, hW.sub (List.nil_sublist _)⟩
    ·intro hc6
     replace hc6 := of_decide_eq_false hc6
     exact (hc6 hc3).elim
  ·intro hc2
   replace hc2 := of_decide_eq_false hc2
   refine l_end (n_then ?_)
   refine c_false rfl ?_
   refine c_skip (n_then (c_seq (c_seq (c_reg ?_))))
   refine aI ?_
   refine l_val (r_eql rfl rfl rfl rfl) rfl rfl ?_
   refine l_split ?_ ?_
   ·intro hc7
    replace hc7 := of_decide_eq_true hc7
    exact absurd hc7 hc2
   ·intro hc7
    replace hc7 := of_decide_eq_false hc7
    refine aB ?_
    refine lN ?_
    refine lN ?_
    refine lN ?_
    refine lN ?_
    refine lN ?_
    refine kB ?_
    refine l_end (n_then ?_)
    refine c_false rfl ?_
    refine c_skip (n_then (c_seq (c_seq (c_reg ?_))))
    refine aI ?_
    refine l_val (r_neq rfl rfl rfl rfl) rfl rfl ?_
    refine l_split ?_ ?_
    ·intro hc8
     replace hc8 := of_decide_eq_true hc8
     refine l_end (n_then ?_)
     refine c_true rfl ?_
     refine c_seq (c_reg ?_)
     refine l_val (r_build (ps := []) (bld38_) rfl rfl) rfl rfl ?_
     refine l_val (r_build (ps := []) (bld31_) rfl rfl) rfl rfl ?_
     refine aI ?_
     refine sA hW 1 tyA38 ?_
     intro W hW
     refine sA hW 0 tyA31 ?_
     intro W hW
     refine bI ?_
     refine l_end (n_then (c_ret (r_then ?_)))
     refine ret_cell2_tmp hW 1 0 tyA38 tyA31 rfl rfl rfl rfl rfl (by first | rfl | exact kc_len _ | exact kcf_len _ | exact boC_len _ _ | (simp; done)) (by first | rfl | exact kc_len _ | exact kcf_len _ | exact boC_len _ _ | (simp; done)) rfl ?_
     have e : traceE b l noise = partsE b.s l := trE_p (fun e => e hc1) hc2
     exact ⟨_, [], rfl, ⟨z38, z31, by rw [e]; rfl, by rw [traceT, if_neg (by rw [e]; exact hc2), z38_no, z31_no]; exact found_no 64⟩, hW.sub (List.nil_sublist _)⟩
    ·intro hc8
     replace hc8 := of_decide_eq_false hc8
     exact (hc8 hc7).elim
 ·intro hc1
  replace hc1 := of_decide_eq_false hc1
  refine l_end (n_then ?_)
  refine c_false rfl ?_
  refine c_skip (n_then (c_seq (c_reg ?_)))
  refine l_val (r_fieldAddr 0 Tryz.underlying31 rfl tyA26.size rfl rfl rfl) rfl rfl ?_
  refine l_loadP hW 2 tyA26 rfl rfl rfl rfl rfl (by first | rfl | omega | (simp; done) | (simp; omega)) rfl ?_
  refine aI ?_
  refine l_call hW (g_Bound _ _) en44 rfl rfl rfl rfl ?_
  intro W hW
  refine l_val (r_move (v := .tuple _) rfl rfl) rfl rfl ?_
  refine l_val (r_extract (v := .int _ _) rfl rfl rfl) rfl rfl ?_
  refine l_val (r_extract (v := .int _ _) rfl rfl rfl) rfl rfl ?_
  refine bI ?_
  refine bI ?_
  refine l_end (n_then (c_seq (c_seq (c_reg ?_))))
  refine aI ?_
  refine l_val (r_eql rfl rfl rfl rfl) rfl rfl ?_
  refine l_split ?_ ?_
  ·intro hc9
   replace hc9 := of_decide_eq_true hc9
   exact absurd hc9 hc1
  ·intro hc9
   replace hc9 := of_decide_eq_false hc9
   refine l_end (n_then ?_)
   refine c_false rfl ?_
   refine c_skip (n_then (c_seq (c_seq (c_reg ?_))))
   refine aI ?_
   refine l_val (r_eql rfl rfl rfl rfl) rfl rfl ?_
   refine l_split ?_ ?_
   ·intro hc10
    replace hc10 := of_decide_eq_true hc10
    exact absurd hc10 hc9
   ·intro hc10
    replace hc10 := of_decide_eq_false hc10
    refine aB ?_
    refine lN ?_
    refine lN ?_
    refine lN ?_
    refine lN ?_
    refine lN ?_
    refine kB ?_
    refine l_end (n_then ?_)
    refine c_false rfl ?_
    refine c_skip (n_then (c_seq (c_seq (c_reg ?_))))
    refine aI ?_
    refine l_val (r_neq rfl rfl rfl rfl) rfl rfl ?_
    refine l_split ?_ ?_
    ·intro hc11
     replace hc11 := of_decide_eq_true hc11
     refine l_end (n_then ?_)
     refine c_true rfl ?_
     refine c_seq (c_reg ?_)
     refine l_val (r_build (ps := []) (bld38_) rfl rfl) rfl rfl ?_
     refine l_val (r_build (ps := []) (bld31_) rfl rfl) rfl rfl ?_
     refine aI ?_
     refine sA hW 1 tyA38 ?_
     intro W hW
     refine sA hW 0 tyA31 ?_
     intro W hW
     refine bI ?_
     refine l_end (n_then (c_ret (r_then ?_)))
     refine ret_cell2_tmp hW 1 0 tyA38 tyA31 rfl rfl rfl rfl rfl (by first | rfl | exact kc_len _ | exact kcf_len _ | exact boC_len _ _ | (simp; done)) (by first | rfl | exact kc_len _ | exact kcf_len _ | exact boC_len _ _ | (simp; done)) rfl ?_
     have e : traceE b l noise = chkB b := trE_b hc1
     exact ⟨_, [], rfl, ⟨z38, z31, by rw [e]; rfl, by rw [traceT, if_neg (by rw [e]; exact hc1), z38_no, z31_no]; exact found_no 64⟩, hW.sub (List.nil_sublist _)⟩
    ·intro hc11
     replace hc11 := of_decide_eq_false hc11
     exact (hc11 hc10).elim

end Go.Proofs.YtoegpalacppllaaGreat

/- A range over a function whose rounds may leave early (by return), over an iterator that may hold such ranges itself: marks pile up among the deferred calls. No function of the program is in sight here. -/
namespace Go.Proofs.YtoegpalacppllaaGreat
open Go.RowKit

/-- whatever is no cell in r is so in r' -/
def Ext (r r' : World) : Prop := ∀ (k : Nat) (o : Obj), r.heap[k]? = some o → o.isCells = false → r'.heap[k]? = some o
/-- no object but cells, or nothing at all -/
def Fresh (r : World) (D : Nat) : Prop := ∀ o, r.heap[D]? = some o → o.isCells = true
/-- records that change when a round leaves -/
def Sup (r : World) (S : Nat → Option Obj) : Prop := ∀ k o, S k = some o → ∃ rc, r.heap[k]? = some (.loop rc)
def stp (S : Nat → Option Obj) (r : World) : World := { r with heap := r.heap.mapIdx fun k o => (S k).getD o }
def markD (D : Nat) : Deferred := { target := .collected D, args := #[] }
section
variable {P : Program} {ops : Array Oper} {Q : Exit → Act → World → Prop} {bs : List Value} {us : List (Nat × Value)} {ds : List Deferred} {b : Base} {W w r r' r'' r0 r1 r2 : World} {rest : List Oper} {o : Oper} {L Bx : List Blk} {d D : Nat} {v : Value} {m : Nat} {S : Nat → Option Obj}
theorem Ext.rfl' : Ext r r := fun _ _ h _ => h
theorem Ext.trans (h : Ext r r') (h' : Ext r' r'') : Ext r r'' := fun k o hk ho => h' k o (h k o hk ho) ho
theorem Cl.ext (hW : Cl ⟨w, r'⟩ L W) (h : Ext r r') : Cl ⟨w, r⟩ L W := ⟨hW.below, hW.holds, hW.own, hW.apart, fun k o hk ho => hW.oth k o (h k o hk ho) ho⟩
theorem Cl.self (hW : Cl ⟨w, r⟩ L W) : Cl ⟨w, W⟩ L W := ⟨hW.below, hW.holds, hW.own, hW.apart, fun _ _ h _ => h⟩
theorem stp_get (k : Nat) : (stp S r).heap[k]? = (r.heap[k]?).map fun o => (S k).getD o := by simp [stp]
theorem Ext.stp (h : Ext r r') (hS : Sup r S) : Ext (stp S r) (stp S r') := by
  intro k o hk ho
  rw [stp_get] at hk ⊢
  cases hr : r.heap[k]? with
  | none => rw [hr] at hk; cases hk
  | some o1 =>
    rw [hr] at hk
    cases hs : S k with
    | none =>
      rw [hs] at hk
      injection hk with hk
      have hk : o1 = o := hk
      subst hk
      rw [h k _ hr ho]; rfl
    | some o' =>
      obtain ⟨rc, hrc⟩ := hS k o' hs
      rw [h k _ hrc rfl]
      rw [hs] at hk
      exact hk
theorem Fresh.no (h : Fresh r D) (hS : Sup r S) : S D = none := by
  cases hs : S D with
  | none => rfl
  | some o =>
    obtain ⟨rc, hrc⟩ := hS D o hs
    cases h _ hrc
theorem stp_at (hs : S D = none) : (stp S r).heap[D]? = r.heap[D]? := by rw [stp_get, hs]; cases r.heap[D]? <;> rfl
theorem Fresh.of (h : Fresh r' D) (he : Ext r r') : Fresh r D := fun o ho => by
  cases hc : o.isCells with
  | true => rfl
  | false => rw [← h _ (he _ _ ho hc), hc]
theorem Fresh.stp (h : Fresh r D) (hS : Sup r S) : Fresh (stp S r) D := fun o ho => h o (by rw [← ho, stp_at (h.no hS)])
theorem Cl.fresh (hW : Cl ⟨w, r⟩ L W) (hD : W.heap.size ≤ D) : Fresh r D := fun o ho => by
  cases hc : o.isCells with
  | true => rfl
  | false =>
    have := (Array.getElem?_eq_some_iff.1 (hW.oth _ _ ho hc)).1
    omega
theorem Sup.none : Sup r fun _ => none := fun k o h => by cases h
theorem Sup.ext (h : Sup r S) (he : Ext r r') : Sup r' S := fun k o hk => by obtain ⟨rc, hrc⟩ := h k o hk; exact ⟨rc, he _ _ hrc rfl⟩

/-- an object that is fresh is put anew -/
theorem Cl.putF {o' : Obj} (hW : Cl ⟨w, r⟩ L W) (hf : Fresh r D) (o2 : Obj) (hl : W.heap[D]? = some o') (ho : o'.isCells = false) (hb : w.heap.size ≤ D) : Cl ⟨w, r⟩ L (W.putObj D o2) := by
  have h := hW.put o2 hl ho hb
  refine ⟨h.below, h.holds, h.own, h.apart, fun k o hk hc => ?_⟩
  by_cases hkl : k = D
  · subst hkl; rw [hf _ hk] at hc; cases hc
  · exact (World.putObj_heap_other hkl).trans (hW.oth k o hk hc)

/-- the marks that have piled up since r0 -/
def MkOk (w r0 r1 : World) (ds : List Deferred) : Prop := Ext r0 r1 ∧ ∃ Ds : List Nat, ds = Ds.map markD ∧ Ds.Nodup ∧ ∀ D ∈ Ds, w.heap.size ≤ D ∧ Fresh r0 D ∧ r1.heap[D]? = some (.deferred (some []))
theorem MkOk.nil : MkOk w r r [] := ⟨Ext.rfl', [], rfl, List.nodup_nil, fun _ h => absurd h List.not_mem_nil⟩
theorem MkOk.cons (h : MkOk w r0 r1 ds) (he : Ext r1 r2) (hf : Fresh r1 D) (hD : r2.heap[D]? = some (.deferred (some []))) (hw : w.heap.size ≤ D) : MkOk w r0 r2 (markD D :: ds) := by
  obtain ⟨h0, Ds, rfl, hn, h⟩ := h
  refine ⟨h0.trans he, D :: Ds, rfl, List.nodup_cons.2 ⟨fun hm => ?_, hn⟩, ?_⟩
  · cases hf _ (h D hm).2.2
  · intro k hk
    rcases List.mem_cons.1 hk with rfl | hk
    · exact ⟨hw, hf.of h0, hD⟩
    · obtain ⟨h1, h2, h3⟩ := h k hk
      exact ⟨h1, h2, he _ _ h3 rfl⟩
theorem MkOk.stp (h : MkOk w r0 r1 ds) (hS : Sup r0 S) : MkOk w (stp S r0) (stp S r1) ds := by
  obtain ⟨h0, Ds, rfl, hn, h⟩ := h
  refine ⟨h0.stp hS, Ds, rfl, hn, fun D hD => ?_⟩
  obtain ⟨h1, h2, h3⟩ := h D hD
  exact ⟨h1, h2.stp hS, by rw [stp_at (h2.no hS)]; exact h3⟩
/-- the same marks, seen from what came later -/
theorem MkOk.ext (h : MkOk w r0 r1 ds) (he : Ext r1 r2) : MkOk w r0 r2 ds := by
  obtain ⟨h0, Ds, rfl, hn, h⟩ := h
  exact ⟨h0.trans he, Ds, rfl, hn, fun D hD => by obtain ⟨h1, h2, h3⟩ := h D hD; exact ⟨h1, h2, he _ _ h3 rfl⟩⟩

variable {fn : Func} {R' : Ending → World → Prop}
theorem leaves_marks {tmps : Array Value} (h : ∀ W, Cl ⟨w, r0⟩ L W → LeavesInM Fence.wide 0 P fn tmps R' [] .returning W) : ∀ (Ds : List Nat) (W : World), Ds.Nodup → (∀ D ∈ Ds, w.heap.size ≤ D ∧ Fresh r0 D ∧ W.heap[D]? = some (.deferred (some []))) → Cl ⟨w, r0⟩ L W → LeavesInM Fence.wide 0 P fn tmps R' (Ds.map markD) .returning W
  | [], W, _, _, hW => h W hW
  | D :: Ds, W, hn, hD, hW => by
    obtain ⟨h1, h2, h3⟩ := hD D List.mem_cons_self
    obtain ⟨hn1, hn2⟩ := List.nodup_cons.1 hn
    refine ⟨by simp, .inl ⟨D, _, rfl, run_takeDeferred h3, ?_⟩⟩
    refine leaves_marks h Ds _ hn2 (fun D' hD' => ?_) (hW.putF h2 _ h3 rfl h1)
    obtain ⟨g1, g2, g3⟩ := hD D' (List.mem_cons_of_mem _ hD')
    exact ⟨g1, g2, (World.putObj_heap_other (fun (e : D' = D) => hn1 (by rw [← e]; exact hD'))).trans g3⟩
theorem ret_marks (hM : MkOk w r0 r1 ds) (hW : Cl ⟨w, r1⟩ L W) (h : ∀ W, Cl ⟨w, r0⟩ L W → bodyPost P fn R' .ret (fr bs us []) W) : bodyPostM Fence.wide 0 P fn R' .ret (fr bs us ds) W := by
  obtain ⟨h0, Ds, rfl, hn, hD⟩ := hM
  show LeavesInM Fence.wide 0 P fn (fr bs us (Ds.map markD)).tmps R' (Ds.map markD) .returning W
  refine leaves_marks (L := L) (w := w) (r0 := r0) (fun W hW => ?_) Ds W hn (fun D h => ?_) (hW.ext h0)
  · exact (h W hW).2
  · obtain ⟨h1, h2, h3⟩ := hD D h
    exact ⟨h1, h2, hW.oth _ _ h3 rfl⟩
theorem end_marks (hM : MkOk w r0 r1 ds) (hW : Cl ⟨w, r1⟩ L W) (h : ∀ W, Cl ⟨w, r0⟩ L W → bodyPost P fn R' .ret (fr bs us []) W) : bodyPostM Fence.wide 0 P fn R' .normal (fr bs us ds) W := ret_marks hM hW h

theorem l_yieldN {rk : Option Nat} {l : Nat} {t : Bool} {x : Operand} {xs : Array Operand} {ts : Array TypeId} {args : List Value} {R : World → Prop} (hY : YieldAt Fence.wide 0 P l args.toArray W fun e W' => e = .returned (.bool t) ∧ R W')
    (hg : Region.wanted o (yielded ops (fr bs us ds).tmps) = true) (ho : o.op = .call { callee := .value x, args := xs, argTypes := ts }) (hx : ev bs us x = .func (.yield l) #[] #[]) (ha : xs.toList.map (ev bs us) = args) (hd : o.dst = some d)
    (h : ∀ W', R W' → LW (some rk) 0 P ops Q rest (fr bs ((d, .bool t) :: us) ds) W') : LW (some rk) 0 P ops Q (o :: rest) (fr bs us ds) W := by
  refine ⟨wpListIn_step fun K hK => ?_⟩
  rw [if_pos hg]
  refine ⟨about_ok rk, ?_⟩
  obtain ⟨fn, tmps, assign, body, hr, hR⟩ := hY
  have hrun : (execOp (fr bs us ds).eval o).run P W = .ok (.round l fn tmps assign body) W := by rw [eval_ev, run_callY ho hx ha]; exact hr
  have e : o.semAt (RF rk).round (fr bs us ds).eval = execOp (fr bs us ds).eval o := Oper.semAt_eq _ _ _ (not_defer hrun (fun d h => by cases h))
  rw [e, hrun, Oper.uponIn_round]
  refine ⟨RF_depth rk, ?_⟩
  have hR2 : RoundIn (RF rk) 0 P l fn tmps assign body W fun e W' => e = .returned (.bool t) ∧ R W' := by cases rk <;> exact hR
  refine RoundIn.mono hR2 ?_
  rintro e w ⟨rfl, hw⟩
  refine hK _ _ ?_
  rw [hd, put_st]
  exact (h w hw).h

/-- a loop in which marks pile up -/
theorem c_loopD {rk : Option (Option Nat)} {c : Code} {α : Type} (F : α → (Nat → Value) → List Value) (B : α → List Blk) (H : α → Prop) (μ : α → Nat) (x0 : α) (hl : toL bs us = F x0 (look bs us)) (hM : MkOk w r0 r1 ds) (hW : Cl ⟨w, r1⟩ (B x0) W) (h0 : H x0)
    (round : ∀ x j r1 ds W, H x → MkOk w r0 r1 ds → Cl ⟨w, r1⟩ (B x) W → CW rk m P c (Exit.then (fun a' W' => ∃ x' j' r1' ds', a' = fr (F x' j') [] ds' ∧ MkOk w r0 r1' ds' ∧ Cl ⟨w, r1'⟩ (B x') W' ∧ H x' ∧ μ x' < μ x) Q) (fr (F x j) [] ds) W) : CW rk m P (Code.loop c) Q (fr bs us ds) W := by
  refine CW.loop (fun n a W => ∃ x j r1 ds, a = fr (F x j) [] ds ∧ MkOk w r0 r1 ds ∧ Cl ⟨w, r1⟩ (B x) W ∧ H x ∧ μ x = n) (μ x0) ⟨x0, look bs us, r1, ds, by rw [← hl]; rfl, hM, hW, h0, rfl⟩ ?_
  rintro n a W ⟨x, j, r1, ds, rfl, hM, hB, hx, rfl⟩
  refine CW.mono (round x j r1 ds W hx hM hB) ?_
  intro e a W h
  cases e with
  | normal =>
    obtain ⟨x', j', r1', ds', ha, hM', hB', hx', hm⟩ := h
    exact ⟨μ x', hm, x', j', r1', ds', ha, hM', hB', hx', rfl⟩
  | exit id => exact h
  | goto t => exact h
  | ret => exact h
  | panic ch => exact h
  | outgrown => exact h
theorem loop_nextD {α : Type} {F : α → (Nat → Value) → List Value} {B : α → List Blk} {H : α → Prop} {μ : α → Nat} {mm : Nat} (x' : α) (hl : toL bs us = F x' (look bs us)) (hM : MkOk w r0 r1 ds) (hW : Cl ⟨w, r1⟩ (B x') W) (hH : H x') (hm : μ x' < mm) :
    ∃ x' j' r1' ds', fr bs us ds = fr (F x' j') [] ds' ∧ MkOk w r0 r1' ds' ∧ Cl ⟨w, r1'⟩ (B x') W ∧ H x' ∧ μ x' < mm := ⟨x', look bs us, r1, ds, by rw [← hl]; rfl, hM, hW, hH, hm⟩
theorem heap_past {g : Nat} {o : Obj} (hb : Below w.heap.size w r) (h : w.heap[g]? = some o) : r.heap[g]? = some o := (hb.block g (Array.getElem?_eq_some_iff.1 h).1).trans h
theorem perm_in {A B X L : List Blk} : ((A ++ (B ++ X)) ++ L).Perm ((A ++ (B ++ L)) ++ X) := by
  rw [List.append_assoc, List.append_assoc, List.append_assoc, List.append_assoc]
  exact List.Perm.append_left _ (List.Perm.append_left _ List.perm_append_comm)
end
end Go.Proofs.YtoegpalacppllaaGreat

/- Plain laws of the cipher's round trips. No program is in sight here. -/
namespace Go.Proofs.YtoegpalacppllaaGreat.Pl
theorem number_lt (k : Kw) (n : W64) {most : W64} (h : ¬ most = 0#64) : (number k n most).toNat < most.toNat := by
  unfold number
  rw [if_neg h, BitVec.toNat_umod]
  refine Nat.mod_lt _ (Nat.pos_of_ne_zero fun e => h (BitVec.eq_of_toNat_eq (by simpa using e)))
end Go.Proofs.YtoegpalacppllaaGreat.Pl

/- What a trace proves: noise, deadness, who is named. No program is in sight here. -/
namespace Go.Proofs.YtoegpalacppllaaGreat.Tr
open Hn

/-- of so many queries one is not hidden by noise -/
theorem noise_calm {b : Bo} (n0 : 0 ≤ b.n) (n8 : b.n ≤ 8) (a0 : 0 ≤ b.a) : ∃ j : Nat, (j : Int) < 2 * b.n + 1 ∧ noiseB { b with a := b.a + (j : Int) } = false := by
  obtain ⟨B, hB⟩ : ∃ B, B = b.n.toNat + 1 := ⟨_, rfl⟩
  obtain ⟨q, hq⟩ : ∃ q, q = (b.a.toNat + B - 1) / B := ⟨_, rfl⟩
  have h1 := Nat.div_add_mod (b.a.toNat + B - 1) B
  have h2 := Nat.mod_lt (b.a.toNat + B - 1) (show 0 < B by omega)
  rw [← hq] at h1
  have hBn : (BitVec.ofNat 64 B).toNat = B := by rw [BitVec.toNat_ofNat]; omega
  obtain ⟨r, hr⟩ : ∃ r, r = (Pl.number b.k (BitVec.ofNat 64 q) (BitVec.ofNat 64 B)).toNat := ⟨_, rfl⟩
  have hlt : r < B := by
    have := Pl.number_lt b.k (BitVec.ofNat 64 q) (most := BitVec.ofNat 64 B) (fun e => by rw [e] at hBn; simp at hBn; omega)
    omega
  refine ⟨B * q + r - b.a.toNat, by omega, ?_⟩
  have e : (b.a + ((B * q + r - b.a.toNat : Nat) : Int)).toNat = B * q + r := by omega
  have e1 : (B * q + r) / B = q := by rw [Nat.mul_add_div (by omega), Nat.div_eq_of_lt hlt]; omega
  have e2 : (B * q + r) % B = r := by rw [Nat.mul_add_mod, Nat.mod_eq_of_lt hlt]
  unfold noiseB
  simp only [e, ← hB, e1, e2]
  rw [decide_eq_false_iff_not, Classical.not_not, ← hr, BitVec.toNat_ofNat]
  omega
theorem noise_congr {b c : Bo} (hk : b.k = c.k) (hn : b.n = c.n) (ha : b.a = c.a) : noiseB b = noiseB c := by unfold noiseB; rw [hk, hn, ha]
/-- a box after so many queries of the same kind -/
def asks (o : List Bool) (f : Int) : Nat → Bo → Bo
  | 0, b => b
  | j + 1, b => asks o f j (askd b o f)
theorem asks_succ (o : List Bool) (f : Int) : ∀ (j : Nat) (b : Bo), asks o f (j + 1) b = askd (asks o f j b) o f
  | 0, _ => rfl
  | j + 1, b => asks_succ o f j (askd b o f)
theorem asks_add (o : List Bool) (f : Int) (i : Nat) : ∀ (j : Nat) (b : Bo), asks o f (j + i) b = asks o f i (asks o f j b)
  | 0, b => by rw [Nat.zero_add]; rfl
  | j + 1, b => by rw [show j + 1 + i = (j + i) + 1 by omega]; exact asks_add o f i j (askd b o f)
theorem asks_run {b0 : Bo} (o : List Bool) (f : Int) : ∀ (j : Nat) {b : Bo} {c : Nat}, Askd b0 b c → Askd b0 (asks o f j b) (c + j)
  | 0, b, c, h => h
  | j + 1, b, c, h => by
    rw [show c + (j + 1) = c + 1 + j by omega]
    exact asks_run o f j (h.ask o f)
theorem seen_false {o : List Bool} {f : Int} : ∀ {k : Nat} {b : Bo} {n : Nat}, (seenN o f k b n).2.1 = false → (seenN o f k b n).1 = asks o f k b ∧ ∀ j, j < k → plays (asks o f j b) o f = false
  | 0, _, _, _ => ⟨rfl, fun j hj => by omega⟩
  | k + 1, b, n, h => by
    cases hp : plays b o f with
    | true => rw [seenN_yes hp] at h; cases h
    | false =>
      rw [seenN_no hp] at h ⊢
      obtain ⟨h1, h2⟩ := seen_false h
      refine ⟨h1, fun j hj => ?_⟩
      cases j with
      | zero => exact hp
      | succ j => exact h2 j (by omega)
theorem seen_true {o : List Bool} {f : Int} : ∀ {k : Nat} {b : Bo} {n : Nat}, (seenN o f k b n).2.1 = true → ∃ j, j < k ∧ plays (asks o f j b) o f = true ∧ (seenN o f k b n).1 = asks o f (j + 1) b
  | 0, b, n, h => by cases h
  | k + 1, b, n, h => by
    cases hp : plays b o f with
    | true => rw [seenN_yes hp]; exact ⟨0, by omega, hp, rfl⟩
    | false =>
      rw [seenN_no hp] at h ⊢
      obtain ⟨j, h1, h2, h3⟩ := seen_true h
      exact ⟨j + 1, by omega, h2, h3⟩
/-- whether a box would play, but for noise and death -/
def wishB (b : Bo) (o : List Bool) (f : Int) : Bool := !decide ((stp o f o.length).1 = 0) && (decide ((stp o f o.length).2.1 = 0) || playB b (stp o f o.length).1 (stp o f o.length).2.1 (stp o f o.length).2.2)
def deadB (b : Bo) : Bool := decide (0 < b.v ∧ b.v < b.x)
theorem plays_iff {b : Bo} {o : List Bool} {f : Int} : plays b o f = true ↔ wishB b o f = true ∧ ¬ (0 < b.v ∧ b.v < (askd b o f).x) ∧ noiseB b = false := by
  unfold plays askW wishB
  rw [show (after b (stp o f o.length).1 (stp o f o.length).2.1) = askd b o f from rfl]
  generalize stp o f o.length = s
  constructor
  · intro h
    split at h
    · cases h
    · next hn =>
      have h1 : ¬ s.1 = 0 := fun e => hn (.inl e)
      have h2 : ¬ (0 < b.v ∧ b.v < (askd b o f).x) := fun e => hn (.inr (.inl e))
      have h3 : noiseB b = false := by rw [← Bool.not_eq_true]; exact fun e => hn (.inr (.inr e))
      refine ⟨?_, h2, h3⟩
      split at h
      · next hw => simp [h1, hw]
      · simp [h1, h]
  · rintro ⟨h1, h2, h3⟩
    simp only [Bool.and_eq_true, Bool.not_eq_true', decide_eq_false_iff_not, Bool.or_eq_true, decide_eq_true_eq] at h1
    rw [if_neg (by rintro (h | h | h); exact h1.1 h; exact h2 h; rw [h3] at h; cases h)]
    split
    · rfl
    · next hw => exact h1.2.resolve_left hw
theorem wish_same {b0 b : Bo} {c : Nat} (h : Askd b0 b c) (o : List Bool) (f : Int) : wishB b o f = wishB b0 o f := by
  unfold wishB playB oddB; rw [h.m, h.k]
theorem dead_mono {b0 b : Bo} {c : Nat} (h : Askd b0 b c) (hd : deadB b0 = true) : deadB b = true := by
  unfold deadB at *
  have h1 := of_decide_eq_true hd
  have := h.v
  have := h.x2
  exact decide_eq_true (by omega)
/-- what holds of a box whenever it is asked -/
structure Okb (b : Bo) : Prop where
  n0 : 0 ≤ b.n
  n8 : b.n ≤ 8
  x0 : 0 ≤ b.x
  x1 : b.x ≤ b.a
theorem Okb.run {b0 b : Bo} {c : Nat} (k : Okb b0) (h : Askd b0 b c) : Okb b := ⟨by rw [h.n]; exact k.n0, by rw [h.n]; exact k.n8, h.x0, h.x1⟩
theorem Okb.refl {b : Bo} (k : Okb b) : Askd b b 0 := Askd.refl k.x0 k.x1
theorem not_seen {b : Bo} {o : List Bool} {f : Int} {N n : Nat} (k : Okb b) (hN : 2 * b.n + 1 ≤ (N : Int)) (h : (seenN o f N b n).2.1 = false) : wishB b o f = false ∨ deadB (seenN o f N b n).1 = true := by
  have := k.x0
  have := k.x1
  obtain ⟨j, hj, hc⟩ := noise_calm k.n0 k.n8 (by omega)
  obtain ⟨h1, h2⟩ := seen_false h
  have hr := asks_run o f j k.refl
  have hp := h2 j (by omega)
  rw [h1]
  cases hw : wishB b o f with
  | false => exact .inl rfl
  | true =>
    refine .inr ?_
    have hra : (asks o f j b).a = b.a + (j : Int) := by
      have := hr.a
      rw [Nat.zero_add] at this
      exact this
    have hno : noiseB (asks o f j b) = false := (noise_congr (c := { b with a := b.a + (j : Int) }) hr.k hr.n hra).trans hc
    have hd : 0 < (asks o f j b).v ∧ (asks o f j b).v < (askd (asks o f j b) o f).x := by
      apply Classical.byContradiction
      intro hn
      have : plays (asks o f j b) o f = true := plays_iff.2 ⟨by rw [wish_same hr]; exact hw, hn, hno⟩
      rw [this] at hp; cases hp
    have hd2 : deadB (asks o f (j + 1) b) = true := by
      rw [asks_succ]
      have hv := (hr.ask o f).v
      unfold deadB
      rw [hv, ← hr.v]
      exact decide_eq_true hd
    have hr2 := asks_run o f (j + 1) k.refl
    have hk2 := k.run hr2
    have := asks_run o f (N - (j + 1)) hk2.refl
    rw [← asks_add, show j + 1 + (N - (j + 1)) = N by omega] at this
    exact dead_mono this hd2
theorem seen_yes {b : Bo} {o : List Bool} {f : Int} {N n : Nat} (k : Okb b) (h : (seenN o f N b n).2.1 = true) : wishB b o f = true ∧ deadB (seenN o f N b n).1 = false := by
  obtain ⟨j, hj, hp, hs⟩ := seen_true h
  have hr := asks_run o f j k.refl
  obtain ⟨h1, h2, h3⟩ := plays_iff.1 hp
  refine ⟨by rw [← wish_same hr]; exact h1, ?_⟩
  rw [hs, asks_succ]
  unfold deadB
  rw [(hr.ask o f).v, ← hr.v]
  exact decide_eq_false h2
theorem stp_skip {o : List Bool} {i : Nat} (h : o.getD i false = false) : ∀ n, stp o (i : Int) n = stp o ((i + 1 : Nat) : Int) n
  | 0 => rfl
  | n + 1 => by
    have ih := stp_skip h n
    by_cases e : n = i
    · subst e; rw [stp_no h, stp_no h, ih]
    · rw [stp, stp, ih]
      have : ((n : Int) < (i : Int)) = ((n : Int) < ((i + 1 : Nat) : Int)) := by apply propext; omega
      simp only [this]
theorem stp_all (o : List Bool) (f : Int) : ∀ n : Nat, (n : Int) ≤ f → (stp o f n).1 = 0
  | 0, _ => rfl
  | n + 1, h => by
    have ih := stp_all o f n (by omega)
    rw [stp, if_pos (show (n : Int) < f by omega)]
    split <;> exact ih
theorem wish_len (b : Bo) (o : List Bool) : wishB b o (o.length : Int) = false := by
  unfold wishB
  rw [stp_all o _ o.length (Int.le_refl _)]; rfl
theorem wish_skip {b : Bo} {o : List Bool} {i : Nat} (h1 : wishB b o (i : Int) = true) (h2 : wishB b o ((i + 1 : Nat) : Int) = false) : o.getD i false = true := by
  rw [← Bool.not_eq_false]
  intro h
  unfold wishB at h1 h2
  rw [stp_skip h] at h1
  rw [h1] at h2; cases h2
/-- the search finds an item that is open, if the box is not dead then -/
theorem search_open {o : List Bool} {N : Nat} : ∀ {k low high : Nat} {b : Bo} {a : Nat}, Okb b → 2 * b.n + 1 ≤ (N : Int) → high - low ≤ k → low < high → wishB b o (low : Int) = true → (wishB b o (high : Int) = false ∨ deadB b = true) →
    ∃ c, Askd b (searchN o N k low high b a).1 c ∧ wishB b o ((searchN o N k low high b a).2.1 : Int) = true ∧ (wishB b o (((searchN o N k low high b a).2.1 + 1 : Nat) : Int) = false ∨ deadB (searchN o N k low high b a).1 = true)
  | 0, low, high, b, a, _, _, h, h1, _, _ => by omega
  | k + 1, low, high, b, a, hb, hN, h, h1, hl, hh => by
    by_cases he : high - low ≤ 1
    · rw [searchN_end he]
      refine ⟨0, hb.refl, hl, ?_⟩
      rwa [show low + 1 = high by omega]
    · obtain ⟨j, -, j2, -⟩ := seenN_run o (((low + high) / 2 : Nat) : Int) N a hb.refl
      rw [Nat.zero_add] at j2
      have hy := seen_yes (o := o) (f := (((low + high) / 2 : Nat) : Int)) (N := N) (n := a) hb
      have hn := not_seen (o := o) (f := (((low + high) / 2 : Nat) : Int)) (N := N) (n := a) hb hN
      rcases hs : seenN o (((low + high) / 2 : Nat) : Int) N b a with ⟨x, p, n⟩
      rw [hs] at j2 hy hn
      simp only at j2 hy hn
      have hN2 : 2 * x.n + 1 ≤ (N : Int) := by rw [j2.n]; exact hN
      cases p with
      | true =>
        rw [searchN_yes he hs]
        obtain ⟨c, c1, c2, c3⟩ := search_open (k := k) (low := (low + high) / 2) (high := high) (a := n) (hb.run j2) hN2 (by omega) (by omega) (by rw [wish_same j2]; exact (hy rfl).1) (hh.imp (fun e => by rw [wish_same j2]; exact e) (dead_mono j2))
        rw [wish_same j2] at c2 c3
        exact ⟨j + c, j2.trans c1, c2, c3⟩
      | false =>
        rw [searchN_no he hs]
        obtain ⟨c, c1, c2, c3⟩ := search_open (k := k) (low := low) (high := (low + high) / 2) (a := n) (hb.run j2) hN2 (by omega) (by omega) (by rw [wish_same j2]; exact hl) ((hn rfl).imp (fun e => by rw [wish_same j2]; exact e) id)
        rw [wish_same j2] at c2 c3
        exact ⟨j + c, j2.trans c1, c2, c3⟩
/-- what is open to a box does not change -/
theorem opens_same {b0 b : Bo} {c : Nat} (h : Askd b0 b c) (l : List (Int × Int)) (n : Nat) : opens b l n = opens b0 l n := by
  unfold opens; rw [h.s, h.l]
theorem opens_get {b : Bo} {l : List (Int × Int)} {i n : Nat} (hi : i < n) : (opens b l n).getD i false = opnB b.s b.l (qn l i) (qm l i) := by
  unfold opens; simp [List.getD_eq_getElem?_getD, hi]
theorem opn_mem {s : Sc} {c : List Int} {v w : Int} (h : opnB s c v w = true) : ∃ u ∈ c, memB s v w u.toNat = true := by
  obtain ⟨i, hi, h⟩ := List.any_eq_true.1 h
  have hi := List.mem_range.1 hi
  exact ⟨at_ c i, mem_at.2 ⟨i, hi, rfl⟩, h⟩
theorem mem_opn {s : Sc} {c : List Int} {v w : Int} {u : Int} (hu : u ∈ c) (h : memB s v w u.toNat = true) : opnB s c v w = true := by
  obtain ⟨i, hi, rfl⟩ := mem_at.1 hu
  exact List.any_eq_true.2 ⟨i, List.mem_range.2 hi, h⟩
/-- the end of a trace -/
structure Fin (N : Nat) (b0 : Bo) (tot : List Int) (r : Ts × Nat) : Prop where
  e : r.2 = 1 ∨ r.2 = 2
  ask : Askd b0 r.1.b r.1.a
  part : Part b0.s tot r.1.l r.1.nm
  col : ∀ u ∈ r.1.nm, u ∈ b0.l
  shut : wishB r.1.b r.1.o 0 = false ∨ deadB r.1.b = true
  fit : r.1.a + N ≤ (2 * p2 b0.s.d.toNat + 1) * ((b0.s.d.toNat + 2) * N)
  all : b0.v = 0 → r.2 = 1 ∧ wishB r.1.b r.1.o 0 = false
theorem wish_open {b : Bo} {o : List Bool} (h : wishB b o 0 = true) : 0 < o.length := by
  apply Classical.byContradiction
  intro hn
  obtain rfl : o = [] := List.eq_nil_of_length_eq_zero (by omega)
  cases h
theorem merged_mem {a b : List Int} {x : Int} (h : x ∈ merged a b) : x ∈ a ∨ x ∈ b := by
  have := (List.mem_filter.1 h).2
  rw [Bool.or_eq_true] at this
  exact this.imp List.contains_iff_mem.1 List.contains_iff_mem.1
theorem round_law {N : Nat} {b0 : Bo} {tot : List Int} {t : Ts} (hs : schB b0.s = true) (hu : usersB b0.l ((p2 b0.s.d.toNat : Nat) : Int) = true) (ht : tot.Nodup) (k : Tin N b0 tot t) (hb : Okb b0) (hN : 2 * b0.n + 1 ≤ (N : Int)) (hc : ∀ u ∈ t.nm, u ∈ b0.l) :
    (∀ u ∈ (roundN N t).1.nm, u ∈ b0.l) ∧ ((roundN N t).2 ≠ 0 → Fin N b0 tot (roundN N t)) := by
  obtain ⟨hl1, hl2⟩ := len_le hs ht k.part
  have hfit := k.fit
  rw [Nat.succ_mul] at hfit
  have hk : (b0.s.d.toNat + 2) * N = b0.s.d.toNat * N + 2 * N := Nat.add_mul _ _ _
  have hbt := hb.run k.ask
  have hNt : 2 * t.b.n + 1 ≤ (N : Int) := by rw [k.ask.n]; exact hN
  obtain ⟨j, j1, j2, j3, -⟩ := seenN_run t.o 0 N t.a k.ask
  have hy := seen_yes (o := t.o) (f := 0) (N := N) (n := t.a) hbt
  have hn := not_seen (o := t.o) (f := 0) (N := N) (n := t.a) hbt hNt
  obtain ⟨q1, -, q2, -⟩ := seenN_run t.o 0 N t.a hbt.refl
  rw [Nat.zero_add] at q2
  rcases hs1 : seenN t.o 0 N t.b t.a with ⟨b1, p1, a1⟩
  rw [hs1] at j2 j3 hy hn q2
  simp only at j2 j3 hy hn q2
  subst j3
  have o1 : ∀ {b : Bo} {c : Nat} (a : Nat) (nm : List Int), Askd b0 b c → Ts.o ⟨b, t.l, nm, a⟩ = t.o := fun a nm h => by
    show opens _ t.l t.l.length = opens t.b t.l t.l.length
    rw [opens_same h, opens_same k.ask]
  cases p1 with
  | false =>
    rw [round_1 hs1]
    refine ⟨hc, fun _ => ⟨.inl rfl, j2, k.part, hc, ?_, by simp only; omega, fun hv => ⟨rfl, ?_⟩⟩⟩
    · rw [o1 _ _ j2, wish_same q2]; exact hn rfl
    · rw [o1 _ _ j2, wish_same q2]
      rcases hn rfl with h | h
      · exact h
      · have := of_decide_eq_true h
        have := j2.v
        omega
  | true =>
    obtain ⟨hw0, hd0⟩ := hy rfl
    have hb1 := hb.run j2
    have hN1 : 2 * b1.n + 1 ≤ (N : Int) := by rw [j2.n]; exact hN
    have hpos := wish_open hw0
    obtain ⟨q, q1', q2', q3', q4, q5⟩ := searchN_run t.o N t.o.length (i := b0.s.d.toNat) (low := 0) (high := t.o.length) (t.a + j) j2 hpos (by rw [opens_length]; omega)
    obtain ⟨c, c1, c2, c3⟩ := search_open (o := t.o) (N := N) (k := t.o.length) (low := 0) (high := t.o.length) (a := t.a + j) hb1 hN1 (by omega) hpos (by rw [wish_same q2]; exact hw0) (.inl (wish_len _ _))
    rcases hs2 : searchN t.o N t.o.length 0 t.o.length b1 (t.a + j) with ⟨b2, low, a2⟩
    rw [hs2] at q2' q3' q4 q5 c1 c2 c3
    simp only at q2' q3' q4 q5 c1 c2 c3
    subst q3'
    have hb2 := hb.run q2'
    have hN2 : 2 * b2.n + 1 ≤ (N : Int) := by rw [q2'.n]; exact hN
    obtain ⟨i, i1, i2, i3, -⟩ := seenN_run t.o 0 N (t.a + j + q) q2'
    obtain ⟨y, -, y2, -⟩ := seenN_run t.o 0 N (t.a + j + q) hb2.refl
    have hy3 := seen_yes (o := t.o) (f := 0) (N := N) (n := t.a + j + q) hb2
    have hn3 := not_seen (o := t.o) (f := 0) (N := N) (n := t.a + j + q) hb2 hN2
    rcases hs3 : seenN t.o 0 N b2 (t.a + j + q) with ⟨b3, p3, a3⟩
    rw [hs3] at i2 i3 hy3 hn3 y2
    simp only at i2 i3 hy3 hn3 y2
    subst i3
    cases p3 with
    | false =>
      have hd : deadB b3 = true := by
        rcases hn3 rfl with h | h
        · rw [wish_same q2', ← wish_same k.ask, hw0] at h; cases h
        · exact h
      rw [round_2 hs1 hs2 hs3]
      refine ⟨hc, fun _ => ⟨.inr rfl, i2, k.part, hc, .inr hd, ?_, fun hv => ?_⟩⟩
      · have hp : 1 ≤ t.pot := by
          have h1 := allm_ge hs k.part.sub
          have h2 := opens_length t
          simp only [Ts.pot, pot, k.ask.s]
          omega
        have := Nat.mul_le_mul_right ((b0.s.d.toNat + 2) * N) hp
        simp only; omega
      · have := of_decide_eq_true hd
        have := i2.v
        omega
    | true =>
      rw [round_0 hs1 hs2 hs3]
      obtain ⟨-, hd3⟩ := hy3 rfl
      refine ⟨fun u hu' => ?_, fun h => absurd rfl h⟩
      have hopen : t.o.getD low false = true := by
        refine wish_skip c2 (c3.resolve_right fun h => ?_)
        have := dead_mono y2 h
        rw [hd3] at this; cases this
      have hlow : low < t.l.length := by rw [← opens_length]; exact q5
      rw [Ts.o, opens_get hlow, k.ask.s, k.ask.l] at hopen
      simp only [takenM, k.ask.s] at hu'
      split at hu'
      · next h1 =>
        rcases merged_mem hu' with h | h
        · exact hc u h
        · obtain ⟨w, hw, hm⟩ := opn_mem hopen
          obtain ⟨i, hi, rfl⟩ := mem_at.1 hw
          have hat := users_at hu hi
          have hw' : at_ b0.l i ∈ membersN b0.s (qn t.l low) (qm t.l low) (p2 b0.s.d.toNat) := by
            have := members_mem (s := b0.s) (v := qn t.l low) (w := qm t.l low) (n := p2 b0.s.d.toNat) (u := (at_ b0.l i).toNat) (by omega) hm
            rwa [Int.toNat_of_nonneg hat.1] at this
          obtain ⟨z, hz⟩ := List.length_eq_one_iff.1 h1
          rw [hz, List.mem_singleton] at h hw'
          rw [h, ← hw']; exact hw
      · exact hc u hu'
theorem traced_law {N : Nat} {b0 : Bo} {tot : List Int} (hs : schB b0.s = true) (hu : usersB b0.l ((p2 b0.s.d.toNat : Nat) : Int) = true) (ht : tot.Nodup) (hr : ∀ x ∈ tot, 0 ≤ x ∧ x < 64) (hb : Okb b0) (hN : 2 * b0.n + 1 ≤ (N : Int)) :
    ∀ {k : Nat} {t : Ts}, t.pot < k → Tin N b0 tot t → (∀ u ∈ t.nm, u ∈ b0.l) → Fin N b0 tot (tracedN N k t)
  | 0, t, h, _, _ => by omega
  | k + 1, t, h, hi, hc => by
    obtain ⟨h1, h2⟩ := round_law hs hu ht hi hb hN hc
    by_cases h0 : (roundN N t).2 = 0
    · obtain ⟨h3, h4⟩ := (hi.round hs ht hr).1 h0
      rw [tracedN_0 h0]
      exact traced_law hs hu ht hr hb hN (by omega) h3 h1
    · rw [tracedN_e h0]; exact h2 h0
end Go.Proofs.YtoegpalacppllaaGreat.Tr

/- What a box plays: as its coalition knows; what is not open does not count; noise. No program is in sight here. -/
namespace Go.Proofs.YtoegpalacppllaaGreat.Tr
open Hn

/-- with no fakes each open item is right -/
theorem stp_zero (o : List Bool) : ∀ n, (stp o 0 n).2.1 = 0 ∧ ((stp o 0 n).1 = 0 ↔ ∀ i, i < n → o.getD i false = false)
  | 0 => ⟨rfl, ⟨fun _ i hi => by omega, fun _ => rfl⟩⟩
  | n + 1 => by
    obtain ⟨h1, h2⟩ := stp_zero o n
    cases h : o.getD n false with
    | false =>
      rw [stp_no h]
      refine ⟨h1, h2.trans ⟨fun k i hi => ?_, fun k i hi => k i (by omega)⟩⟩
      by_cases e : i = n
      · rw [e]; exact h
      · exact k i (by omega)
    | true =>
      rw [stp_right h (by omega)]
      refine ⟨h1, ⟨fun k => absurd k (by simp), fun k => ?_⟩⟩
      have := k n (by omega)
      rw [h] at this; cases this
def anyB (o : List Bool) (n : Nat) : Bool := (List.range n).any fun i => o.getD i false
theorem anyB_iff {o : List Bool} {n : Nat} : anyB o n = false ↔ ∀ i, i < n → o.getD i false = false := by
  unfold anyB
  rw [List.any_eq_false]
  exact ⟨fun h i hi => by simpa using h i (List.mem_range.2 hi), fun h i hi => by rw [h i (List.mem_range.1 hi)]; decide⟩
theorem wish_zero (b : Bo) (o : List Bool) : wishB b o 0 = anyB o o.length := by
  obtain ⟨h1, h2⟩ := stp_zero o o.length
  unfold wishB
  rw [decide_eq_true h1, Bool.true_or, Bool.and_true]
  cases h : anyB o o.length with
  | false => rw [decide_eq_true (h2.2 (anyB_iff.1 h))]; rfl
  | true =>
    rw [decide_eq_false fun e => by rw [anyB_iff.2 (h2.1 e)] at h; cases h]; rfl
theorem opens_getD {b : Bo} {l : List (Int × Int)} {i : Nat} (hi : i < l.length) : (opens b l l.length).getD i false = opnB b.s b.l (qn l i) (qm l i) := opens_get hi
theorem subsE_all {s : Sc} {l : List (Int × Int)} : subsE s l = 0 ↔ l.length ≤ 64 ∧ ∀ i, i < l.length → subB s (qn l i) (qm l i) = true :=
  ⟨fun h => subsE_ok (by omega), fun h => subsE_yes (by omega) h.2⟩
end Go.Proofs.YtoegpalacppllaaGreat.Tr

/- Keys of subsets, headers. No program is in sight here. -/
namespace Go.Proofs.YtoegpalacppllaaGreat.Tr
open Hn

/-- the label of a child -/
def stepP (k : Pl.Kw) (v : Nat) : Pl.Kw := if v % 2 = 0 then Pl.derive k 31 0 else Pl.derive k 32 0
/-- a label on its way down -/
def dk (k : Pl.Kw) (y n : Nat) : Nat → Pl.Kw
  | 0 => k
  | i + 1 => stepP (dk k y n i) (sh y (n - (i + 1)))
def descK (k : Pl.Kw) (v y : Nat) : Pl.Kw := dk k y (lev y - lev v) (lev y - lev v)
/-- the key of a subset -/
def keyN (k : Pl.Kw) (s : Sc) (v x : Nat) : Pl.Kw :=
  if s.k = 1 then Pl.derive k 30 (BitVec.ofNat 64 v) else if x = 0 then Pl.derive k 34 0 else Pl.derive (descK (Pl.derive k 30 (BitVec.ofNat 64 v)) v x) 33 0
theorem key_1 {k : Pl.Kw} {s : Sc} {v x : Nat} (h : s.k = 1) : keyN k s v x = Pl.derive k 30 (BitVec.ofNat 64 v) := if_pos h
theorem key_0 {k : Pl.Kw} {s : Sc} {v x : Nat} (h : ¬ s.k = 1) (h2 : x = 0) : keyN k s v x = Pl.derive k 34 0 := by rw [keyN, if_neg h, if_pos h2]
theorem key_n {k : Pl.Kw} {s : Sc} {v x : Nat} (h : ¬ s.k = 1) (h2 : ¬ x = 0) : keyN k s v x = Pl.derive (descK (Pl.derive k 30 (BitVec.ofNat 64 v)) v x) 33 0 := by rw [keyN, if_neg h, if_neg h2]
theorem sub_below {s : Sc} {v x : Int} (h : subB s v x = true) (hk : ¬ s.k = 1) (hx : ¬ x = 0) : belowN x.toNat v.toNat = true := by
  cases hb : belowN x.toNat v.toNat with
  | true => rfl
  | false =>
    cases hn : nodeB s.d v with
    | false => rw [sub_no1 hn] at h; cases h
    | true => rw [sub_no hn hk hx (.inr (.inr hb))] at h; cases h
/-- an item -/
structure It where
  v : Int
  x : Int
  k : Pl.Kw
def sealI (root se : Pl.Kw) (s : Sc) (q : Int × Int) : It := ⟨q.1, q.2, Pl.enc (keyN root s q.1.toNat q.2.toNat) se⟩
/-- what is sealed -/
def sealL (root se : Pl.Kw) (s : Sc) (l : List (Int × Int)) : List It := l.map (sealI root se s)
def sealE (s : Sc) (l : List (Int × Int)) : Int := if chk s ≠ 0 then chk s else subsE s l
theorem sealE_s {s : Sc} {l : List (Int × Int)} (h : chk s ≠ 0) : sealE s l = chk s := if_pos h
theorem sealE_l {s : Sc} {l : List (Int × Int)} (h : ¬ chk s ≠ 0) : sealE s l = subsE s l := if_neg h
theorem sealL_len (root se : Pl.Kw) (s : Sc) (l : List (Int × Int)) : (sealL root se s l).length = l.length := by simp [sealL]
theorem sealL_take {root se : Pl.Kw} {s : Sc} {l : List (Int × Int)} {i : Nat} (hi : i < l.length) : sealL root se s (l.take (i + 1)) = sealL root se s (l.take i) ++ [sealI root se s (qn l i, qm l i)] := by
  have e : (qn l i, qm l i) = l[i] := by simp [qn, qm, List.getD_eq_getElem?_getD, hi]
  rw [sealL, List.take_succ_eq_append_getElem hi, List.map_append, e]; rfl
end Go.Proofs.YtoegpalacppllaaGreat.Tr

/- Where each label stands among a receiver's. No program is in sight here. -/
namespace Go.Proofs.YtoegpalacppllaaGreat.Tr
open Hn
/-- labels ahead of a level's -/
def cntL (s : Sc) (y i : Nat) : Nat := if s.k = 1 then i + 1 else (labs s y i).length
/-- labels ahead of a node's on a level's path -/
def cntI (s : Sc) (y i j : Nat) : Nat := (labs s y i).length + (rowL s y i (i + 1 + j)).length
/-- whether the label of a node on a level's path is one -/
def subI (s : Sc) (y x j : Nat) : Bool := subB s ((sh y (s.d.toNat - x) : Nat) : Int) ((sib (sh y (s.d.toNat - x - (j + 1))) : Nat) : Int)
def ccI (s : Sc) (y x : Nat) (cc : Nat → Bool) (j : Nat) : Bool := !subI s y x j || cc (cntI s y x j)
theorem q_at {l A t : List (Int × Int)} {a : Int × Int} (h : l = A ++ (a :: t)) : A.length < l.length ∧ qn l A.length = a.1 ∧ qm l A.length = a.2 := by
  subst h
  refine ⟨by simp, ?_, ?_⟩ <;> simp [qn, qm, List.getD_eq_getElem?_getD]
theorem labs_pre (s : Sc) (y : Nat) {i : Nat} : ∀ {n : Nat}, i ≤ n → ∃ t, labs s y n = labs s y i ++ t
  | 0, h => ⟨[], by obtain rfl : i = 0 := by omega
                    simp⟩
  | n + 1, h => by
    by_cases hi : i = n + 1
    · subst hi; exact ⟨[], by simp⟩
    · obtain ⟨t, e⟩ := labs_pre s y (i := i) (n := n) (by omega)
      exact ⟨t ++ rowL s y n (s.d.toNat + 1), by rw [labs, e, List.append_assoc]⟩
theorem lab1_pre (d y : Nat) {i : Nat} : ∀ {n : Nat}, i ≤ n → ∃ t, lab1 d y n = lab1 d y i ++ t
  | 0, h => ⟨[], by obtain rfl : i = 0 := by omega
                    simp⟩
  | n + 1, h => by
    by_cases hi : i = n + 1
    · subst hi; exact ⟨[], by simp⟩
    · obtain ⟨t, e⟩ := lab1_pre d y (i := i) (n := n) (by omega)
      exact ⟨t ++ [(((pn d y n : Nat) : Int), 0)], by rw [lab1, e, List.append_assoc]⟩
theorem rowL_pre (s : Sc) (y x : Nat) {i : Nat} : ∀ {n : Nat}, i ≤ n → ∃ t, rowL s y x n = rowL s y x i ++ t
  | 0, h => ⟨[], by obtain rfl : i = 0 := by omega
                    simp⟩
  | n + 1, h => by
    by_cases hi : i = n + 1
    · subst hi; exact ⟨[], by simp⟩
    · obtain ⟨t, e⟩ := rowL_pre s y x (i := i) (n := n) (by omega)
      exact ⟨t ++ (if x < n then labE s y x n else []), by rw [rowL, e, List.append_assoc]⟩
theorem labE_sub {s : Sc} {y x j : Nat} : labE s y x (x + 1 + j) = if subI s y x j then [(((sh y (s.d.toNat - x) : Nat) : Int), ((sib (sh y (s.d.toNat - x - (j + 1))) : Nat) : Int))] else [] := by
  have e : s.d.toNat - x - (j + 1) = s.d.toNat - (x + 1 + j) := by omega
  rw [subI, e]; rfl
theorem rowL_at (s : Sc) (y x j : Nat) : rowL s y x (x + 1 + (j + 1)) = rowL s y x (x + 1 + j) ++ labE s y x (x + 1 + j) := by
  rw [show x + 1 + (j + 1) = (x + 1 + j) + 1 by omega, rowL, if_pos (show x < x + 1 + j by omega)]
theorem lab_in {s : Sc} {y x j : Nat} {l : List (Int × Int)} (hl : l = labs s y (s.d.toNat + 1)) (hx : x + 1 + j ≤ s.d.toNat) (h : subI s y x j = true) : cntI s y x j < l.length ∧ qn l (cntI s y x j) = ((sh y (s.d.toNat - x) : Nat) : Int) ∧ qm l (cntI s y x j) = ((sib (sh y (s.d.toNat - x - (j + 1))) : Nat) : Int) ∧ cntI s y x (j + 1) = cntI s y x j + 1 := by
  have e1 := labE_sub (s := s) (y := y) (x := x) (j := j)
  rw [if_pos h] at e1
  obtain ⟨t1, h1⟩ := rowL_pre s y x (i := x + 1 + (j + 1)) (n := s.d.toNat + 1) (by omega)
  obtain ⟨t2, h2⟩ := labs_pre s y (i := x + 1) (n := s.d.toNat + 1) (by omega)
  have e2 := rowL_at s y x j
  rw [e1] at e2
  have q := q_at (l := l) (A := labs s y x ++ rowL s y x (x + 1 + j)) (a := (((sh y (s.d.toNat - x) : Nat) : Int), ((sib (sh y (s.d.toNat - x - (j + 1))) : Nat) : Int))) (t := t1 ++ t2) (by rw [hl, h2, labs, h1, e2]; simp)
  have ec : (labs s y x ++ rowL s y x (x + 1 + j)).length = cntI s y x j := by rw [List.length_append]; rfl
  rw [ec] at q
  refine ⟨q.1, q.2.1, q.2.2, ?_⟩
  rw [cntI, e2, List.length_append, cntI]; simp; omega
theorem lab_out {s : Sc} {y x j : Nat} (h : subI s y x j = false) : cntI s y x (j + 1) = cntI s y x j := by
  rw [cntI, rowL_at, labE_sub, if_neg (by rw [h]; decide), List.append_nil]; rfl
theorem cntI_zero (s : Sc) (y x : Nat) : cntI s y x 0 = (labs s y x).length := by rw [cntI, rowL_none s y x (by omega)]; rfl
theorem cntI_end {s : Sc} {y x : Nat} (hx : x ≤ s.d.toNat) : cntI s y x (s.d.toNat - x) = (labs s y (x + 1)).length := by
  rw [cntI, labs, List.length_append, show x + 1 + (s.d.toNat - x) = s.d.toNat + 1 by omega]
theorem cntL_zero (s : Sc) (y : Nat) : cntL s y 0 = 1 := by unfold cntL; split <;> rfl
theorem cntL_one {s : Sc} (y x : Nat) (h : s.k = 1) : cntL s y x = x + 1 := if_pos h
theorem cntL_two {s : Sc} (y x : Nat) (h : s.k ≠ 1) : cntL s y x = (labs s y x).length := if_neg h
theorem labN_of {s : Sc} {u y : Nat} (hy : y = p2 s.d.toNat + u) : labN s u = if s.k = 1 then lab1 s.d.toNat y (s.d.toNat + 1) else labs s y (s.d.toNat + 1) := by rw [hy]; rfl
theorem cntL_end {s : Sc} {u y : Nat} (hy : y = p2 s.d.toNat + u) : cntL s y s.d.toNat = (labN s u).length := by
  rw [labN_of hy]
  by_cases h : s.k = 1
  · rw [cntL_one _ _ h, if_pos h, lab1_len]
  · rw [cntL_two _ _ h, if_neg h, labs, List.length_append, rowL_none s y s.d.toNat (by omega)]; rfl
theorem lab_one {s : Sc} {y x : Nat} {l : List (Int × Int)} (hl : l = lab1 s.d.toNat y (s.d.toNat + 1)) (hx : x < s.d.toNat) : x + 1 < l.length ∧ qn l (x + 1) = ((sh y (s.d.toNat - (x + 1)) : Nat) : Int) ∧ qm l (x + 1) = 0 := by
  obtain ⟨t, h⟩ := lab1_pre s.d.toNat y (i := x + 1 + 1) (n := s.d.toNat + 1) (by omega)
  have q := q_at (l := l) (A := lab1 s.d.toNat y (x + 1)) (a := (((pn s.d.toNat y (x + 1) : Nat) : Int), 0)) (t := t) (by rw [hl, h, lab1]; simp)
  rw [lab1_len] at q
  exact q
theorem root_sh {y d : Nat} (h0 : 0 < y) (hy : y < 128) (hl : lev y = d) : sh y d = 1 := by
  have h1 := sh_lev hy (i := d) (by omega)
  have h2 : 0 < sh y d := sh_pos h0 hy (by omega)
  rw [hl, Nat.sub_self, lev] at h1
  have h3 := (Nat.log2_lt (n := sh y d) (k := 1) (by omega)).1 (by omega)
  omega
theorem lab_zero {s : Sc} {u y : Nat} (hy : y = p2 s.d.toNat + u) (h1 : sh y s.d.toNat = 1) : qn (labN s u) 0 = 1 ∧ qm (labN s u) 0 = 0 := by
  rw [labN_of hy]
  by_cases h : s.k = 1
  · rw [if_pos h]
    obtain ⟨t, e⟩ := lab1_pre s.d.toNat y (i := 1) (n := s.d.toNat + 1) (by omega)
    have q := q_at (l := lab1 s.d.toNat y (s.d.toNat + 1)) (A := []) (a := (((pn s.d.toNat y 0 : Nat) : Int), 0)) (t := t) (by rw [e]; rfl)
    refine ⟨q.2.1.trans ?_, q.2.2⟩
    show ((sh y s.d.toNat : Nat) : Int) = 1
    rw [h1]; rfl
  · rw [if_neg h]
    obtain ⟨t, e⟩ := labs_pre s y (i := 0) (n := s.d.toNat + 1) (by omega)
    have q := q_at (l := labs s y (s.d.toNat + 1)) (A := []) (a := (1, 0)) (t := t) (by rw [e]; rfl)
    exact q.2
theorem cc_run {s : Sc} {y x : Nat} {cc : Nat → Bool} (h0 : ∀ j, j < (labs s y x).length → cc j = true) : ∀ i, (∀ j, j < i → ccI s y x cc j = true) → ∀ j, j < cntI s y x i → cc j = true
  | 0, _, j, hj => h0 j (by rwa [cntI_zero] at hj)
  | i + 1, h, j, hj => by
    have ih := cc_run h0 i (fun j hj => h j (by omega))
    have hi := h i (by omega)
    cases hs : subI s y x i with
    | false => rw [lab_out hs] at hj; exact ih j hj
    | true =>
      have e : cntI s y x (i + 1) = cntI s y x i + 1 := by
        rw [cntI, rowL_at, labE_sub, if_pos hs, List.length_append, cntI]; simp; omega
      rw [e] at hj
      rw [ccI, hs] at hi
      by_cases hj' : j = cntI s y x i
      · subst hj'; simpa using hi
      · exact ih j (by omega)
theorem cc_stop {s : Sc} {y x j : Nat} {cc : Nat → Bool} (h : ccI s y x cc j = false) : subI s y x j = true ∧ cc (cntI s y x j) = false := by
  rw [ccI, Bool.or_eq_false_iff] at h
  exact ⟨by simpa using h.1, h.2⟩
end Go.Proofs.YtoegpalacppllaaGreat.Tr

/- Labels, yielded until told to stop. -/
namespace Go.Proofs.YtoegpalacppllaaGreat
open Go.RowKit Pl
open Tr Hn
/-- one step down -/
theorem g_down (y d x : Nat) (h0 : 0 < y) (hy : y < 128) (hl : lev y = d) (hx : x < d) : Gives Tryz.prog 110 [.int .i64 ((sh y (d - x) : Nat) : Int), .int .i64 (y : Int)].toArray (.int .i64 ((sh y (d - (x + 1)) : Nat) : Int)) := by
 have h1 := sh_lev hy (i := d - x) (by omega)
 have h2 := sh_le y (d - x)
 have h := g_ptoward (sh y (d - x)) y (sh_pos h0 hy (by omega)) (by omega) h0 hy (by omega)
 rwa [show lev y - lev (sh y (d - x)) - 1 = d - (x + 1) by omega] at h
end Go.Proofs.YtoegpalacppllaaGreat

/- A range over a function whose rounds may leave, where of the consumer's blocks only something is known. No function of the program is in sight here. -/
namespace Go.Proofs.YtoegpalacppllaaGreat
open Go.RowKit
section
variable {P : Program} {ops : Array Oper} {Q : Exit → Act → World → Prop} {bs : List Value} {us : List (Nat × Value)} {ds : List Deferred} {b : Base} {W w r r' r'' r0 r1 r2 : World} {rest : List Oper} {o : Oper} {L Bx : List Blk} {d D : Nat} {v : Value} {m : Nat} {S : Nat → Option Obj}
variable {fn : Func} {R' : Ending → World → Prop}
/-- what an iterator does whose consumer says at each round whether it goes on -/
def IterU (P : Program) (w : World) (gf : Nat) (lb : Array Value) (n : Nat) (enc : Nat → Array Value) (Bx : List Blk) : Prop :=
  ∀ (r : World) (l : Nat) (c : Nat → Bool) (S : Nat → Option Obj) (J : Nat → List Blk → Prop) (Jx : List Blk → Prop) (L0 : List Blk) (W : World), Sup r S →
    (∀ (r' : World) (i : Nat) (L Lc : List Blk) (W : World), Ext r r' → i < n → (∀ j, j < i → c j = true) → J i Lc → Cl ⟨w, r'⟩ (L ++ (Bx ++ Lc)) W →
        YieldAt Fence.wide 0 P l (enc i) W fun e W' => e = .returned (.bool (c i)) ∧ (c i = true → ∃ Lc', J (i + 1) Lc' ∧ Cl ⟨w, r'⟩ (L ++ (Bx ++ Lc')) W') ∧ (c i = false → ∃ Lc', Jx Lc' ∧ Cl ⟨w, stp S r'⟩ (L ++ (Bx ++ Lc')) W')) →
      J 0 L0 → Cl ⟨w, r⟩ (Bx ++ L0) W → CallsIn Fence.wide 0 P gf (#[.func (.yield l) #[] #[]] ++ lb) W fun e W' => (∃ v, e = .returned v) ∧ (((∀ j, j < n → c j = true) ∧ ∃ Lc', J n Lc' ∧ Cl ⟨w, r⟩ (Bx ++ Lc') W') ∨ ((∃ j, j < n ∧ c j = false) ∧ ∃ Lc', Jx Lc' ∧ Cl ⟨w, stp S r⟩ (Bx ++ Lc') W'))

theorem c_rangeU {g : Operand} {ps : Array Tmp} {assign body : Code} {gf : FuncId} {lb : Array Value} {n : Nat} {enc : Nat → Array Value} (hI : IterU P w gf lb n enc Bx) (en : Enters P gf) (hg : ev bs us g = .func (.func gf) #[] lb) (hps : ∀ i, (enc i).size = ps.size)
    (hM : MkOk w r0 r1 ds) (hS : Sup r0 S) (c : Nat → Bool) (J : Nat → List Blk → Prop) (Jx : List Blk → Prop) {L0 : List Blk} (hJ0 : J 0 L0) (hW : Cl ⟨w, r1⟩ (Bx ++ L0) W) (A : Nat → Act)
    (E : Nat → List Value) (hE : ∀ i, ({ tmps := (ps.zip (enc i)).foldl (fun t (p, v) => t.setIfInBounds p v) (fr bs us ds).tmps, defers := [] } : Act) = fr (E i) [] [])
    (hassign : ∀ (l i : Nat) (W : World), CW (some (some l)) 0 P assign (Exit.then (fun a W' => a = A i ∧ W' = W) (fun _ _ _ => False)) (fr (E i) [] []) W)
    (hbody : ∀ (l : Nat) (r : World) (i : Nat) (L Lc : List Blk) (W : World), Ext r1 r → i < n → (∀ j, j < i → c j = true) → J i Lc → Cl ⟨w, r⟩ ((Bx ++ Lc) ++ L) W →
      CW (some (some l)) 0 P body (fun e _ W' => (c i = true ∧ e = .normal ∧ ∃ Lc', J (i + 1) Lc' ∧ Cl ⟨w, r⟩ ((Bx ++ Lc') ++ L) W') ∨ (c i = false ∧ e = .ret ∧ ∃ Lc', Jx Lc' ∧ Cl ⟨w, stp S r⟩ ((Bx ++ Lc') ++ L) W')) (A i) W)
    (hdone : ∀ (ds' : List Deferred) (r W' : World) (Lc : List Blk), (∀ j, j < n → c j = true) → J n Lc → MkOk w r0 r ds' → Ext r1 r → Cl ⟨w, r⟩ (Bx ++ Lc) W' → Q .normal (fr bs us ds') W')
    (hleft : ∀ (ds' : List Deferred) (r W' : World) (Lc : List Blk), (∃ j, j < n ∧ c j = false) → Jx Lc → MkOk w (stp S r0) r ds' → Cl ⟨w, r⟩ (Bx ++ Lc) W' → Q .ret (fr bs us ds') W') :
    CW (some none) 0 P (Code.rangeFunc g ps assign body) Q (fr bs us ds) W := by
  refine wpIn_rangeFunc ?_
  intro fn hfn
  obtain ⟨rec, hrec⟩ : ∃ rec : LoopState → Option Code → Loop, rec = fun st pe => { state := st, pending := pe, fn, tmps := (fr bs us ds).tmps, params := ps, assign, body, defers := W.heap.size } := ⟨_, rfl⟩
  obtain ⟨W1, hW1⟩ : ∃ W1, (W.alloc (.deferred (some []))).alloc (.loop (rec .ready none)) = W1 := ⟨_, rfl⟩
  have hL1 : W1.heap[W.heap.size + 1]? = some (.loop (rec .ready none)) := by
    rw [← hW1]; have := World.alloc_heap_new (W.alloc (.deferred (some []))) (.loop (rec .ready none)); rwa [World.size_alloc] at this
  have hK1 : W1.heap[W.heap.size]? = some (.deferred (some [])) := by
    rw [← hW1]; exact (Below.heap_alloc _ _ _ (by simp)).trans (World.alloc_heap_new W _)
  have hb1 : Below W.heap.size W W1 := by
    rw [← hW1]; exact ((Below.refl _ W).alloc (Nat.le_refl _) _).alloc (by simp) _
  have hC1 : Cl ⟨w, W1⟩ (Bx ++ L0) W1 := hW.rebase hb1
  have hE1 : Ext r1 W1 := fun k o hk ho => (hb1.block k (Array.getElem?_eq_some_iff.1 (hW.oth k o hk ho)).1).trans (hW.oth k o hk ho)
  have hsz : w.heap.size ≤ W.heap.size := hW.below.size
  have hS1 : Sup r1 S := hS.ext hM.1
  have hfD : Fresh r1 W.heap.size := hW.fresh (Nat.le_refl _)
  have hfl : Fresh r1 (W.heap.size + 1) := hW.fresh (by omega)
  have hSl : S (W.heap.size + 1) = none := hfl.no hS1
  have hSD : S W.heap.size = none := hfD.no hS1
  obtain ⟨S', hS'⟩ : ∃ S' : Nat → Option Obj, S' = fun j => if j = W.heap.size + 1 then some (.loop (rec .done (some .ret))) else S j := ⟨_, rfl⟩
  have hS1' : Sup W1 S' := by
    intro k o hk
    rw [hS'] at hk
    by_cases hkl : k = W.heap.size + 1
    · subst hkl; exact ⟨_, hL1⟩
    · simp only [if_neg hkl] at hk
      exact (hS1.ext hE1) k o hk
  refine ⟨W.heap.size + 1, [markD W.heap.size], W1, { target := .fn (.func gf) lb, args := #[.func (.yield (W.heap.size + 1)) #[] #[]] }, W1, gf,
    #[.func (.yield (W.heap.size + 1)) #[] #[]] ++ lb, W1, ?_, ?_, fun _ _ => trivial, ?_, fun h => RF_depth none h, ?_⟩
  · rw [← hW1, hrec]; exact run_enterLoop_outer _ _ _ _ _
  · rw [eval_ev]; simp only [resolve, hg]
    simp [go_sem]
    rfl
  · simp [invoke, go_sem, en _ W1]
  · refine (hI W1 (W.heap.size + 1) c S' J Jx L0 W1 hS1' ?_ hJ0 hC1).mono ?_
    · intro r' i L Lc W2 hr' hi hj hJ hcl
      have hlr := hr' _ _ hL1 rfl
      have hl := hcl.oth _ _ hlr rfl
      have hy := run_yield (P := P) (args := enc i) hl (by rw [hrec]; exact hps i)
      rw [hrec] at hy
      refine ⟨fn, _, assign, body, hy, roundIn_of_wpIn hfn ((hE i) ▸ wpIn_mono (hassign (W.heap.size + 1) i W2) ?_)⟩
      intro e a W3 he
      cases e with
      | normal =>
        obtain ⟨rfl, rfl⟩ := he
        refine ⟨_, run_beginRound hl (by rw [hrec]), ?_⟩
        have hlt : W.heap.size + 1 < W3.heap.size := (Array.getElem?_eq_some_iff.1 hl).1
        have hltr : W.heap.size + 1 < r'.heap.size := (Array.getElem?_eq_some_iff.1 hlr).1
        obtain ⟨rb, hrb⟩ : ∃ rb, rb = r'.putObj (W.heap.size + 1) (.loop { rec .ready none with state := .busy }) := ⟨_, rfl⟩
        have hlb : rb.heap[W.heap.size + 1]? = some (.loop { rec .ready none with state := .busy }) := by rw [hrb]; exact World.putObj_heap_same hltr
        have hob : ∀ k, k ≠ W.heap.size + 1 → rb.heap[k]? = r'.heap[k]? := fun k hk => by rw [hrb]; exact World.putObj_heap_other hk
        have hEb : Ext r1 rb := fun k o hk ho => by
          by_cases hkl : k = W.heap.size + 1
          · subst hkl; rw [hfl _ hk] at ho; cases ho
          · rw [hob k hkl]; exact hr' k o (hE1 k o hk ho) ho
        have hput := hcl.put (.loop { rec .ready none with state := .busy }) hl rfl (show w.heap.size ≤ _ by omega)
        have hclb : Cl ⟨w, rb⟩ ((Bx ++ Lc) ++ L) (W3.putObj (W.heap.size + 1) (.loop { rec .ready none with state := .busy })) := by
          refine Cl.perm ⟨hput.below, hput.holds, hput.own, hput.apart, fun k o hk ho => ?_⟩ List.perm_append_comm
          by_cases hkl : k = W.heap.size + 1
          · subst hkl
            have hk : rb.heap[W.heap.size + 1]? = some o := hk
            rw [hlb] at hk
            rw [← hk]
            exact World.putObj_heap_same hlt
          · exact (World.putObj_heap_other hkl).trans (hcl.oth k o (by rw [← hob k hkl]; exact hk) ho)
        refine wpIn_mono (hbody (W.heap.size + 1) rb i L Lc _ hEb hi hj hJ hclb) ?_
        rintro e a W4 (⟨hc, rfl, Lc', hJ', h4⟩ | ⟨hc, rfl, Lc', hJ', h4⟩)
        · have hl4 := h4.oth _ _ hlb rfl
          refine ⟨_, _, run_endRound none hl4, by rw [hc]; rfl, fun _ => ?_, fun hc' => (by rw [hc] at hc'; cases hc')⟩
          have h5 := (h4.perm List.perm_append_comm).put (.loop (rec .ready none)) hl4 rfl (show w.heap.size ≤ _ by omega)
          have hpo : (W4.putObj (W.heap.size + 1) (.loop { ({ rec .ready none with state := .busy } : Loop) with state := if (none : Option Code).isNone then .ready else .done, pending := none })) = W4.putObj (W.heap.size + 1) (.loop (rec .ready none)) := by rw [hrec]; rfl
          rw [hpo]
          refine ⟨Lc', hJ', h5.below, h5.holds, h5.own, h5.apart, fun k o hk ho => ?_⟩
          by_cases hkl : k = W.heap.size + 1
          · subst hkl
            have hk' : r'.heap[W.heap.size + 1]? = some o := hk
            rw [hlr] at hk'
            rw [← hk']
            exact World.putObj_heap_same (Array.getElem?_eq_some_iff.1 hl4).1
          · exact (World.putObj_heap_other hkl).trans (h4.oth k o ((hob k hkl).trans hk) ho)
        · have hl4 : W4.heap[W.heap.size + 1]? = some (.loop { rec .ready none with state := .busy }) := h4.oth _ _ (by show (stp S rb).heap[_]? = _; rw [stp_at hSl]; exact hlb) rfl
          refine ⟨_, _, run_endRound (some .ret) hl4, by rw [hc]; rfl, fun hc' => (by rw [hc] at hc'; cases hc'), fun _ => ?_⟩
          have h5 := (h4.perm List.perm_append_comm).put (.loop (rec .done (some .ret))) hl4 rfl (show w.heap.size ≤ _ by omega)
          have hpo : (W4.putObj (W.heap.size + 1) (.loop { ({ rec .ready none with state := .busy } : Loop) with state := if (some Code.ret : Option Code).isNone then .ready else .done, pending := some .ret })) = W4.putObj (W.heap.size + 1) (.loop (rec .done (some .ret))) := by rw [hrec]; rfl
          rw [hpo]
          refine ⟨Lc', hJ', h5.below, h5.holds, h5.own, h5.apart, fun k o hk ho => ?_⟩
          have hk : (stp S' r').heap[k]? = some o := hk
          by_cases hkl : k = W.heap.size + 1
          · subst hkl
            rw [stp_get, hlr] at hk
            injection hk with hk
            have hk : ((S' (W.heap.size + 1)).getD (.loop (rec .ready none))) = o := hk
            rw [hS'] at hk
            simp only [if_true, Option.getD_some] at hk
            rw [← hk]
            exact World.putObj_heap_same (Array.getElem?_eq_some_iff.1 hl4).1
          · refine (World.putObj_heap_other hkl).trans (h4.oth k o ?_ ho)
            show (stp S rb).heap[k]? = some o
            have e : S' k = S k := by rw [hS']; simp only [if_neg hkl]
            rw [stp_get, e] at hk
            rw [stp_get, hob k hkl]; exact hk
      | _ => exact he.elim
    · rintro e W3 ⟨⟨v, rfl⟩, ⟨hc, Lc', hJ', h3⟩ | ⟨hc, Lc', hJ', h3⟩⟩
      · have hl := h3.oth _ _ hL1 rfl
        have hk := h3.oth _ _ hK1 rfl
        refine ⟨_, _, run_endLoop hl (by rw [hrec]; simp), ?_⟩
        have hpe : (rec .ready none).pending = none := by rw [hrec]
        rw [hpe]
        refine (fun (key : ∀ o5, Q .normal (fr bs us (markD W.heap.size :: ds)) (W3.putObj (W.heap.size + 1) o5)) => key _) (fun o5 => ?_)
        have h5 := h3.put o5 hl rfl (show w.heap.size ≤ _ by omega)
        have hE5 : Ext r1 (W3.putObj (W.heap.size + 1) o5) := fun k o hk ho => by
          by_cases hkl : k = W.heap.size + 1
          · subst hkl; rw [hfl _ hk] at ho; cases ho
          · exact (World.putObj_heap_other hkl).trans (h3.oth _ _ (hE1 k o hk ho) ho)
        exact hdone _ _ _ Lc' hc hJ' (hM.cons hE5 hfD ((World.putObj_heap_other (by omega)).trans hk) hsz) hE5 h5
      · have hl : W3.heap[W.heap.size + 1]? = some (.loop (rec .done (some .ret))) := h3.oth _ _ (by show (stp S' W1).heap[_]? = _; rw [stp_get, hL1, hS']; simp) rfl
        have hk : W3.heap[W.heap.size]? = some (.deferred (some [])) := h3.oth _ _ (by show (stp S' W1).heap[_]? = _; rw [stp_at (by rw [hS']; simp only; rw [if_neg (by omega)]; exact hSD)]; exact hK1) rfl
        refine ⟨_, _, run_endLoop hl (by rw [hrec]; simp), ?_⟩
        have hpe : (rec .done (some .ret)).pending = some .ret := by rw [hrec]
        rw [hpe]
        refine (fun (key : ∀ o5, CW (some none) 0 P Code.ret Q (fr bs us (markD W.heap.size :: ds)) (W3.putObj (W.heap.size + 1) o5)) => key _) (fun o5 => ?_)
        have h5 := h3.put o5 hl rfl (show w.heap.size ≤ _ by omega)
        have hE5 : Ext (stp S r1) (W3.putObj (W.heap.size + 1) o5) := fun k o hk ho => by
          by_cases hkl : k = W.heap.size + 1
          · subst hkl; rw [stp_at hSl] at hk; rw [hfl _ hk] at ho; cases ho
          · refine (World.putObj_heap_other hkl).trans (h3.oth _ _ ?_ ho)
            have := hE1.stp hS1 k o hk ho
            show (stp S' W1).heap[k]? = some o
            rw [stp_get] at this ⊢
            have e : S' k = S k := by rw [hS']; simp only [if_neg hkl]
            rw [e]; exact this
        exact c_ret (hleft _ _ _ Lc' hc hJ' ((hM.stp hS).cons hE5 (hfD.stp hS1) ((World.putObj_heap_other (by omega)).trans hk) hsz) h5)

theorem iterU_of {gf : FuncId} {c : Code} {lb : List Value} {n : Nat} {enc : Nat → Array Value} {F : Nat → List Value} (hf : P.funcs[gf]? = some fn) (hb : fn.body = some c) (hl : ∀ l, [Value.func (.yield l) #[] #[]] ++ lb ++ List.replicate (fn.ntmps - (lb.length + 1)) undef = F l)
    (h : ∀ (r : World) (l : Nat) (cc : Nat → Bool) (S : Nat → Option Obj) (J : Nat → List Blk → Prop) (Jx : List Blk → Prop) (L0 : List Blk) (W : World), Sup r S →
      (∀ (r' : World) (i : Nat) (L Lc : List Blk) (W : World), Ext r r' → i < n → (∀ j, j < i → cc j = true) → J i Lc → Cl ⟨w, r'⟩ (L ++ (Bx ++ Lc)) W →
        YieldAt Fence.wide 0 P l (enc i) W fun e W' => e = .returned (.bool (cc i)) ∧ (cc i = true → ∃ Lc', J (i + 1) Lc' ∧ Cl ⟨w, r'⟩ (L ++ (Bx ++ Lc')) W') ∧ (cc i = false → ∃ Lc', Jx Lc' ∧ Cl ⟨w, stp S r'⟩ (L ++ (Bx ++ Lc')) W')) →
      J 0 L0 → Cl ⟨w, r⟩ (Bx ++ L0) W → CW (some none) 0 P c (bodyPostM Fence.wide 0 P fn (fun e W' => (∃ v, e = .returned v) ∧ (((∀ j, j < n → cc j = true) ∧ ∃ Lc', J n Lc' ∧ Cl ⟨w, r⟩ (Bx ++ Lc') W') ∨ ((∃ j, j < n ∧ cc j = false) ∧ ∃ Lc', Jx Lc' ∧ Cl ⟨w, stp S r⟩ (Bx ++ Lc') W')))) (fr (F l) [] []) W) : IterU P w gf lb.toArray n enc Bx := fun r l c S J Jx L0 W hS hY hJ0 hW => by
  refine callsIn_of_wp_marks hf hb trivial ?_
  have e : #[Value.func (.yield l) #[] #[]] ++ lb.toArray ++ Array.replicate (fn.ntmps - (#[Value.func (.yield l) #[] #[]] ++ lb.toArray).size) undef = (F l).toArray := by
    rw [← hl]; simp
  rw [e]
  exact h r l c S J Jx L0 W hS hY hJ0 hW

end
end Go.Proofs.YtoegpalacppllaaGreat

/- Labels, yielded to a consumer of whose blocks only something is known. -/
namespace Go.Proofs.YtoegpalacppllaaGreat
open Go.RowKit Pl
open Tr Hn
set_option maxRecDepth 10000 in
/-- headend/cover.path$1 -/
theorem u_path {w : World} (y n ga_ gb_ : Nat) (h0 : 0 < y) (hy : y < 128) (hn : n ≤ lev y) : IterU Tryz.prog w 137 #[.pointer (some ⟨ga_, 0, none⟩), .pointer (some ⟨gb_, 0, none⟩)] n (fun i => #[.int .i64 ((sh y (n - (i + 1)) : Nat) : Int)]) [⟨gb_, [.int .i64 (y : Int)], 111⟩, ⟨ga_, [.int .i64 ((sh y n : Nat) : Int)], 111⟩] := by
 refine iterU_of (lb := [.pointer (some ⟨ga_, 0, none⟩), .pointer (some ⟨gb_, 0, none⟩)]) (F := fun l => [.func (.yield l) #[] #[], .pointer (some ⟨ga_, 0, none⟩), .pointer (some ⟨gb_, 0, none⟩), undef, undef, undef, undef, undef, undef, undef, undef, undef, undef, undef, undef, undef]) Tryz.func137 rfl (fun l => rfl) ?_
 intro r l cc S J Jx L0 W hS hY hJ0 hW
 have hM : MkOk w r r [] := MkOk.nil
 refine c_seq (c_reg ?_)
 refine l_loadC hW 1 tyC111 (v := .int .i64 ((sh y n : Nat) : Int)) rfl rfl rfl rfl rfl rfl ?_
 refine bI ?_
 refine l_end (n_then (c_block ?_))
 refine c_loop (fun (x : Nat × List Blk) (j : Nat → Value) => [.func (.yield l) #[] #[], .pointer (some ⟨ga_, 0, none⟩), .pointer (some ⟨gb_, 0, none⟩), j 3, .int .i64 ((sh y (n - x.1) : Nat) : Int), .int .i64 ((sh y n : Nat) : Int), j 6, j 7, j 8, j 9, j 10, j 11, j 12, j 13, j 14, j 15]) (fun (x : Nat × List Blk) => [] ++ ([⟨gb_, [.int .i64 (y : Int)], 111⟩, ⟨ga_, [.int .i64 ((sh y n : Nat) : Int)], 111⟩] ++ x.2)) (fun (x : Nat × List Blk) => x.1 ≤ n ∧ (∀ j, j < x.1 → cc j = true) ∧ J x.1 x.2) (fun (x : Nat × List Blk) => n - x.1) (0, L0) (by kernel_rfl) hW ⟨Nat.zero_le _, fun j hj => absurd hj (Nat.not_lt_zero j), hJ0⟩ ?_
 intro x j W hx hW
 obtain ⟨hx, hcc, hJx⟩ := hx
 have hlv := sh_lev hy (i := n - x.1) (by omega)
 have hle := sh_le y (n - x.1)
 have hpos : 0 < sh y (n - x.1) := sh_pos h0 hy (by omega)
 refine c_seq (c_seq (c_reg ?_))
 refine aI ?_
 refine l_loadC hW 0 tyC111 (v := .int .i64 (y : Int)) rfl rfl rfl rfl rfl rfl ?_
 refine l_val (r_neqN rfl rfl rfl rfl) rfl rfl ?_
 refine l_split ?_ ?_
 ·intro hc1
  replace hc1 := of_decide_eq_true hc1
  have hlt : x.1 < n := Nat.lt_of_le_of_ne (by omega) fun e => hc1 (by rw [e, Nat.sub_self]; rfl)
  refine l_end (n_then ?_)
  refine c_true rfl ?_
  refine c_skip (n_then (c_block (c_seq (c_reg ?_))))
  refine aI ?_
  refine l_loadC hW 0 tyC111 (v := .int .i64 (y : Int)) rfl rfl rfl rfl rfl rfl ?_
  refine l_call hW (g_ptoward (sh y (n - x.1)) y hpos (by omega) h0 hy (by omega)) en110 rfl rfl rfl rfl ?_
  intro W hW
  rw [show lev y - lev (sh y (n - x.1)) - 1 = n - (x.1 + 1) by omega]
  refine bI ?_
  refine l_end (n_then (c_seq (c_reg ?_)))
  refine l_val (r_move (v := .func _ _ _) rfl rfl) rfl rfl ?_
  refine aI ?_
  refine l_yieldN (hY r x.1 [] x.2 W Ext.rfl' (by omega) hcc hJx hW) rfl rfl rfl rfl rfl ?_
  intro W hW
  refine l_split ?_ ?_
  ·intro hc2
   obtain ⟨Lc1, hJ1, hW⟩ := hW.1 hc2
   refine l_val (r_not rfl rfl) rfl rfl ?_
   refine l_end (n_then ?_)
   refine c_false rfl ?_
   refine c_skip (n_block (n_then ?_))
   exact loop_next (x.1 + 1, Lc1) (by kernel_rfl) hW ⟨by simp only; omega, fun j hj => (Nat.lt_or_ge j x.1).elim (hcc j) (fun h => by simp only at hj; rw [show j = x.1 by omega]; exact hc2), hJ1⟩ (by simp only; omega)
  ·intro hc2
   obtain ⟨Lc1, hJ1, hW⟩ := hW.2 hc2
   replace hM := hM.stp hS
   refine l_val (r_not rfl rfl) rfl rfl ?_
   refine l_end (n_then ?_)
   refine c_true rfl ?_
   refine c_ret (r_block (r_then (r_block ?_)))
   refine ret_marks hM hW fun W hW => ?_
   refine ret_none rfl ?_
   exact ⟨⟨_, rfl⟩, .inr ⟨⟨x.1, hlt, hc2⟩, Lc1, hJ1, hW⟩⟩
 ·intro hc1
  replace hc1 := of_decide_eq_false hc1
  have hxn : x.1 = n := Classical.byContradiction fun hne => by rw [show sh y (n - x.1) = y by omega] at hlv; omega
  refine l_end (n_then ?_)
  refine c_false rfl ?_
  refine c_exit (x_then (x_then ?_))
  refine x_hit ?_
  refine end_marks hM hW fun W hW => ?_
  refine ret_none rfl ?_
  exact ⟨⟨_, rfl⟩, .inl ⟨fun j hj => hcc j (by omega), x.2, hxn ▸ hJx, hW⟩⟩

set_option maxRecDepth 10000 in
/-- (headend/cover.tree).labels$1 -/
theorem u_labels {w : World} (s : Sc) (u ga_ gb_ : Nat) (hs : schB s = true) (hu : u < p2 s.d.toNat) : IterU Tryz.prog w 109 #[.pointer (some ⟨ga_, 0, none⟩), .pointer (some ⟨gb_, 0, none⟩)] (labN s u).length (fun i => #[.int .i64 (qn (labN s u) i), .int .i64 (qm (labN s u) i)]) [⟨gb_, [.int .i64 (u : Int)], 3⟩, ⟨ga_, [.int .u8 s.k, .int .i64 s.d, .int .i64 (strideN s.d : Int)], 106⟩] := by
 refine iterU_of (lb := [.pointer (some ⟨ga_, 0, none⟩), .pointer (some ⟨gb_, 0, none⟩)]) (F := fun l => [.func (.yield l) #[] #[], .pointer (some ⟨ga_, 0, none⟩), .pointer (some ⟨gb_, 0, none⟩), undef, undef, undef, undef, undef, undef, undef, undef, undef, undef, undef, undef, undef, undef, undef, undef, undef, undef, undef, undef, undef, undef, undef, undef, undef, undef, undef, undef, undef, undef, undef, undef, undef, undef, undef, undef, undef, undef, undef, undef, undef, undef, undef, undef, undef]) Tryz.func109 rfl (fun l => rfl) ?_
 intro r l cc S J Jx L0 W hS hY hJ0 hW
 have hM : MkOk w r r [] := MkOk.nil
 obtain ⟨k1, k3, d0, d6, -⟩ := schB_iff.1 hs
 have hp := p2_le (n := s.d.toNat) (by omega)
 have hp0 := p2_pos s.d.toNat
 obtain ⟨y, hyu⟩ : ∃ y, y = p2 s.d.toNat + u := ⟨_, rfl⟩
 have hly : lev y = s.d.toNat := by rw [hyu]; exact leaf_lev hu
 have hy0 : 0 < y := by omega
 have hy2 : y < 128 := by omega
 have hrt := root_sh hy0 hy2 hly
 have hz := lab_zero hyu hrt
 refine c_seq (c_reg ?_)
 refine l_boxC hW (v := .func _ _ _) rfl rfl rfl rfl rfl ?_
 intro g1 W hW
 refine l_end (n_then (c_seq (c_reg ?_)))
 refine dA hW 2 tyA106 ?_
 refine dC hW 1 tyC3 ?_
 refine l_call hW (g_pleaf s u (by omega) (by omega) (by omega)) en53 rfl rfl rfl rfl ?_
 intro W hW
 rw [← hyu]
 refine bI ?_
 refine l_end (n_then (c_seq (c_seq (c_reg ?_))))
 refine dC hW 0 tyC186 ?_
 refine l_yieldN (args := [.int .i64 (qn (labN s u) (0)), .int .i64 (qm (labN s u) (0))]) (hY r 0 _ L0 W Ext.rfl' (lab_pos s u) (fun j hj => absurd hj (Nat.not_lt_zero j)) hJ0 (show Cl _ ([_] ++ (_ ++ L0)) _ from hW)) rfl rfl rfl (by rw [hz.1, hz.2]; rfl) rfl ?_
 intro W hW
 refine l_split ?_ ?_
 ·intro hc1
  obtain ⟨Lc1, hJ1, hW⟩ := hW.1 hc1
  refine l_val (r_not rfl rfl) rfl rfl ?_
  refine l_end (n_then ?_)
  refine c_false rfl ?_
  refine c_skip (n_then (c_seq (c_reg ?_)))
  refine l_allocC hW tyZ111 rfl rfl rfl rfl ?_
  intro g2 W hW
  refine l_storeC hW 0 tyC111 (v := .int _ _) rfl rfl rfl rfl rfl rfl (by first | rfl | omega | (simp; done) | (simp; omega)) rfl ?_
  intro W hW
  refine l_end (n_then (c_block ?_))
  refine c_loopD (fun (x : Nat × Nat × List Blk) (j : Nat → Value) => [.func (.yield l) #[] #[], .pointer (some ⟨ga_, 0, none⟩), .pointer (some ⟨gb_, 0, none⟩), .pointer (some ⟨g1, 0, none⟩), .int .i64 (y : Int), .pointer (some ⟨x.2.1, 0, none⟩), j 6, j 7, .agg ([.int .u8 s.k, .int .i64 s.d, .int .i64 (strideN s.d : Int)]).toArray, .int .i64 (u : Int), .int .i64 (y : Int), .func (.yield l) #[] #[], .bool true, .bool false, j 14, j 15, j 16, j 17, j 18, j 19, j 20, j 21, j 22, j 23, j 24, j 25, j 26, j 27, j 28, j 29, j 30, j 31, j 32, j 33, j 34, j 35, j 36, j 37, j 38, j 39, j 40, j 41, j 42, j 43, j 44, j 45, j 46, j 47]) (fun (x : Nat × Nat × List Blk) => [⟨x.2.1, [.int .i64 ((sh y (s.d.toNat - x.1) : Nat) : Int)], 111⟩, ⟨g1, [.func (.yield l) #[] #[]], 186⟩] ++ ([⟨gb_, [.int .i64 (u : Int)], 3⟩, ⟨ga_, [.int .u8 s.k, .int .i64 s.d, .int .i64 (strideN s.d : Int)], 106⟩] ++ x.2.2)) (fun (x : Nat × Nat × List Blk) => x.1 ≤ s.d.toNat ∧ (∀ j, j < cntL s y x.1 → cc j = true) ∧ J (cntL s y x.1) x.2.2) (fun (x : Nat × Nat × List Blk) => s.d.toNat - x.1) (0, g2, Lc1) (by kernel_rfl) hM (hW.to (by show [_, _] ++ (_ ++ Lc1) = [⟨_, [.int .i64 ((sh y (s.d.toNat - 0) : Nat) : Int)], _⟩, _] ++ (_ ++ Lc1); rw [Nat.sub_zero, hrt]; rfl)) ⟨Nat.zero_le _, fun j hj => by rw [cntL_zero] at hj; rw [show j = 0 by omega]; exact hc1, by rw [cntL_zero]; exact hJ1⟩ ?_
  intro x j r1 ds W hx hM hW
  obtain ⟨hx, hcc, hJx⟩ := hx
  have hlv := sh_lev hy2 (i := s.d.toNat - x.1) (by omega)
  have hle := sh_le y (s.d.toNat - x.1)
  have hpos : 0 < sh y (s.d.toNat - x.1) := sh_pos hy0 hy2 (by omega)
  refine c_seq (c_seq (c_reg ?_))
  refine dC hW 0 tyC111 ?_
  refine aI ?_
  refine l_val (r_neqN rfl rfl rfl rfl) rfl rfl ?_
  refine l_split ?_ ?_
  ·intro hc2
   replace hc2 := of_decide_eq_true hc2
   have hlt : x.1 < s.d.toNat := Nat.lt_of_le_of_ne (by omega) fun e => hc2 (by rw [e, Nat.sub_self]; rfl)
   refine l_end (n_then ?_)
   refine c_true rfl ?_
   refine c_skip (n_then (c_seq (c_block (c_seq (c_seq (c_reg ?_))))))
   refine l_val (r_fieldAddr 0 Tryz.underlying106 rfl tyC5.size rfl rfl rfl) rfl rfl ?_
   refine dC hW 3 tyC5 ?_
   refine l_val (r_eql rfl rfl rfl rfl) rfl rfl ?_
   refine l_split ?_ ?_
   ·intro hc3
    replace hc3 := of_decide_eq_true hc3
    have hk : s.k = 1 := hc3
    obtain ⟨q1, q2, q3⟩ := lab_one ((labN_of hyu).trans (if_pos hk)) hlt
    rw [cntL_one y x.1 hk] at hcc hJx
    refine l_end (n_then ?_)
    refine c_true rfl ?_
    refine c_seq (c_seq ?_)
    refine c_regM hW [] [.q, .q, .q, .q, .tail, .tail] [] [] [] [0, 0, 0, 6, 15, 31] (by kernel_rfl) (by kernel_rfl) rfl (by kernel_rfl) ?_
    refine y_loadC 1 tyC186 rfl rfl rfl rfl rfl rfl (by decide) ?_
    refine y_loadC 0 tyC111 rfl rfl rfl rfl rfl rfl (by decide) ?_
    refine yI ?_
    refine y_call (g_down y s.d.toNat x.1 hy0 hy2 hly hlt) en110 rfl rfl rfl rfl ?_
    refine y_tail ?_
    intro W hW
    refine l_yieldN (args := [.int .i64 (qn (labN s u) (x.1 + 1)), .int .i64 (qm (labN s u) (x.1 + 1))]) (hY r1 (x.1 + 1) _ x.2.2 W hM.1 q1 hcc hJx (show Cl _ ([_, _] ++ (_ ++ x.2.2)) _ from hW)) rfl rfl rfl (by rw [q2, q3]; rfl) rfl ?_
    intro W hW
    refine l_split ?_ ?_
    ·intro hc4
     obtain ⟨Lc1, hJ1, hW⟩ := hW.1 hc4
     refine l_val (r_not rfl rfl) rfl rfl ?_
     refine l_end (n_then ?_)
     refine c_false rfl ?_
     refine c_skip (n_then (c_exit (x_then ?_)))
     refine x_hit ?_
     refine n_then (c_seq (c_seq (c_reg ?_)))
     refine dC hW 0 tyC111 ?_
     refine l_end (n_then (c_reg ?_))
     refine l_allocC hW tyZ111 rfl rfl rfl rfl ?_
     intro g3 W hW
     refine l_storeC hW 0 tyC111 (v := .int _ _) rfl rfl rfl rfl rfl rfl (by first | rfl | omega | (simp; done) | (simp; omega)) rfl ?_
     intro W hW
     refine l_end (n_then (c_reg ?_))
     refine dC hW 0 tyC111 ?_
     refine aI ?_
     refine l_call hW (g_down y s.d.toNat x.1 hy0 hy2 hly hlt) en110 rfl rfl rfl rfl ?_
     intro W hW
     refine l_storeC hW 0 tyC111 (v := .int _ _) rfl rfl rfl rfl rfl rfl (by first | rfl | omega | (simp; done) | (simp; omega)) rfl ?_
     intro W hW
     refine l_end (n_then ?_)
     exact loop_nextD (x.1 + 1, g3, Lc1) (by kernel_rfl) hM (hW.sub (.cons_cons _ (.cons _ (List.Sublist.refl _)))) ⟨by simp only; omega, fun j hj => (Nat.lt_or_ge j (x.1 + 1)).elim (hcc j) (fun h => by rw [cntL_one y _ hk] at hj; simp only at hj; rw [show j = x.1 + 1 by omega]; exact hc4), by rw [cntL_one y _ hk]; exact hJ1⟩ (by simp only; omega)
    ·intro hc4
     obtain ⟨Lc1, hJ1, hW⟩ := hW.2 hc4
     replace hM := hM.stp hS
     refine l_val (r_not rfl rfl) rfl rfl ?_
     refine l_end (n_then ?_)
     refine c_true rfl ?_
     refine c_ret (r_then (r_then (r_block (r_then (r_then (r_block ?_))))))
     refine ret_marks hM hW fun W hW => ?_
     refine ret_none rfl ?_
     exact ⟨⟨_, rfl⟩, .inr ⟨⟨x.1 + 1, q1, hc4⟩, Lc1, hJ1, hW.drop 2⟩⟩
   ·intro hc3
    replace hc3 := of_decide_eq_false hc3
    have hk : s.k ≠ 1 := hc3
    have hlab := (labN_of hyu).trans (if_neg hk)
    have hcc1 : ∀ j, j < (labs s y x.1).length → cc j = true := fun j hj => hcc j (by rw [cntL_two y x.1 hk]; exact hj)
    rw [cntL_two y x.1 hk, ← cntI_zero] at hJx
    refine l_end (n_then ?_)
    refine c_false rfl ?_
    refine c_skip (n_then (c_seq (c_reg ?_)))
    refine dC hW 0 tyC111 ?_
    refine aI ?_
    refine l_callX hW (g_ppath (sh y (s.d.toNat - x.1)) y) en101 trivial rfl rfl rfl rfl ?_
    rintro _ Bs1 W ⟨ga1, gb1, rfl, rfl⟩ hW
    replace hW := hW.perm List.perm_append_comm
    refine l_end (n_then (c_block ?_))
    refine c_rangeU (u_path y (s.d.toNat - x.1) ga1 gb1 hy0 hy2 (by omega)) en137 rfl (fun _ => rfl) hM hS (ccI s y x.1 cc) (fun j L => ∃ Lc, J (cntI s y x.1 j) Lc ∧ L = [⟨x.2.1, [.int .i64 ((sh y (s.d.toNat - x.1) : Nat) : Int)], 111⟩, ⟨g1, [.func (.yield l) #[] #[]], 186⟩] ++ ([⟨gb_, [.int .i64 (u : Int)], 3⟩, ⟨ga_, [.int .u8 s.k, .int .i64 s.d, .int .i64 (strideN s.d : Int)], 106⟩] ++ Lc)) (fun L => ∃ Lc, Jx Lc ∧ L = [⟨x.2.1, [.int .i64 ((sh y (s.d.toNat - x.1) : Nat) : Int)], 111⟩, ⟨g1, [.func (.yield l) #[] #[]], 186⟩] ++ ([⟨gb_, [.int .i64 (u : Int)], 3⟩, ⟨ga_, [.int .u8 s.k, .int .i64 s.d, .int .i64 (strideN s.d : Int)], 106⟩] ++ Lc)) ⟨x.2.2, hJx, rfl⟩ hW (fun (i : Nat) => fr [.func (.yield l) #[] #[], .pointer (some ⟨ga_, 0, none⟩), .pointer (some ⟨gb_, 0, none⟩), .pointer (some ⟨g1, 0, none⟩), .int .i64 (y : Int), .pointer (some ⟨x.2.1, 0, none⟩), .int .i64 ((sh y (s.d.toNat - x.1 - (i + 1)) : Nat) : Int), j 7, .agg ([.int .u8 s.k, .int .i64 s.d, .int .i64 (strideN s.d : Int)]).toArray, .int .i64 (u : Int), .int .i64 (y : Int), .func (.yield l) #[] #[], .bool true, .bool false, .int .i64 ((sh y (s.d.toNat - x.1) : Nat) : Int), .int .i64 (y : Int), .bool true, j 17, j 18, j 19, .pointer (some ⟨ga_, 0, none⟩), .int .u8 s.k, .bool false, j 23, j 24, j 25, j 26, j 27, j 28, .int .i64 ((sh y (s.d.toNat - x.1) : Nat) : Int), .int .i64 (y : Int), .func (.func 137) #[] #[.pointer (some ⟨ga1, 0, none⟩), .pointer (some ⟨gb1, 0, none⟩)], .int .i64 ((sh y (s.d.toNat - x.1 - (i + 1)) : Nat) : Int), j 33, j 34, j 35, j 36, j 37, j 38, j 39, j 40, j 41, j 42, j 43, j 44, j 45, j 46, j 47] [] []) (fun (i : Nat) => [.func (.yield l) #[] #[], .pointer (some ⟨ga_, 0, none⟩), .pointer (some ⟨gb_, 0, none⟩), .pointer (some ⟨g1, 0, none⟩), .int .i64 (y : Int), .pointer (some ⟨x.2.1, 0, none⟩), j 6, j 7, .agg ([.int .u8 s.k, .int .i64 s.d, .int .i64 (strideN s.d : Int)]).toArray, .int .i64 (u : Int), .int .i64 (y : Int), .func (.yield l) #[] #[], .bool true, .bool false, .int .i64 ((sh y (s.d.toNat - x.1) : Nat) : Int), .int .i64 (y : Int), .bool true, j 17, j 18, j 19, .pointer (some ⟨ga_, 0, none⟩), .int .u8 s.k, .bool false, j 23, j 24, j 25, j 26, j 27, j 28, .int .i64 ((sh y (s.d.toNat - x.1) : Nat) : Int), .int .i64 (y : Int), .func (.func 137) #[] #[.pointer (some ⟨ga1, 0, none⟩), .pointer (some ⟨gb1, 0, none⟩)], .int .i64 ((sh y (s.d.toNat - x.1 - (i + 1)) : Nat) : Int), j 33, j 34, j 35, j 36, j 37, j 38, j 39, j 40, j 41, j 42, j 43, j 44, j 45, j 46, j 47]) (fun _ => by kernel_rfl) ?_ ?_ ?_ ?_
    ·intro l i W
     refine c_reg ?_
     refine bI ?_
     refine l_end ?_
     refine n_then ⟨?_, rfl⟩
     exact congrArg (fun x => (fr x [] [] : Act)) (by kernel_rfl)
    ·intro lq rq i L Lc W he hi hc hJ hW
     obtain ⟨Lc1, hJ1, rfl⟩ := hJ
     have hle1 := sh_le y (s.d.toNat - x.1 - (i + 1))
     refine c_block (c_seq (c_reg ?_))
     refine aI ?_
     refine l_call hW (g_psibling _ (by omega)) en55 rfl rfl rfl rfl ?_
     intro W hW
     refine bI ?_
     refine l_end (n_then (c_seq (c_reg ?_)))
     refine dA hW 5 tyA106 ?_
     refine dC hW 2 tyC111 ?_
     refine aI ?_
     refine l_val (r_build (ps := [(0, .int _ _), (1, .int _ _)]) (bld64_0_1 _ _) rfl rfl) rfl rfl ?_
     refine l_call hW (g_psubset s _ _ d0 d6) en71 rfl rfl rfl rfl ?_
     intro W hW
     refine l_split ?_ ?_
     ·intro hc5
      have hs1 : subI s y x.1 i = true := hc5
      obtain ⟨q1, q2, q3, q4⟩ := lab_in hlab (by omega) hs1
      refine aB ?_
      refine dG hW 3 tyC186 ?_
      refine dG hW 2 tyC111 ?_
      refine gI ?_
      refine l_yieldN (args := [.int .i64 (qn (labN s u) (cntI s y x.1 i)), .int .i64 (qm (labN s u) (cntI s y x.1 i))]) (hY rq (cntI s y x.1 i) _ Lc1 W (hM.1.trans he) q1 (cc_run hcc1 i hc) hJ1 ((show Cl _ ((_ ++ (_ ++ _)) ++ _) _ from hW).perm perm_in)) (by kernel_rfl) rfl rfl (by rw [q2, q3]; rfl) rfl ?_
      intro W hW
      refine l_split ?_ ?_
      ·intro hc6
       obtain ⟨Lc2, hJ2, hW⟩ := hW.1 hc6
       refine l_valG (r_not rfl rfl) (by kernel_rfl) rfl ?_
       refine kB ?_
       refine l_end (n_then ?_)
       refine c_false rfl ?_
       refine c_skip (n_block ?_)
       exact .inl ⟨by rw [ccI, hs1, hc6]; rfl, rfl, _, ⟨Lc2, by rw [q4]; exact hJ2, rfl⟩, (show Cl _ ((_ ++ (_ ++ _)) ++ _) _ from hW).perm perm_in.symm⟩
      ·intro hc6
       obtain ⟨Lc2, hJ2, hW⟩ := hW.2 hc6
       refine l_valG (r_not rfl rfl) (by kernel_rfl) rfl ?_
       refine kB ?_
       refine l_end (n_then ?_)
       refine c_true rfl ?_
       refine c_ret (r_block ?_)
       exact .inr ⟨by rw [ccI, hs1, hc6]; rfl, rfl, _, ⟨Lc2, hJ2, rfl⟩, (show Cl _ ((_ ++ (_ ++ _)) ++ _) _ from hW).perm perm_in.symm⟩
     ·intro hc5
      have hs1 : subI s y x.1 i = false := hc5
      refine aB ?_
      refine lN ?_
      refine lN ?_
      refine lN ?_
      refine lN ?_
      refine lN ?_
      refine kB ?_
      refine l_end (n_then ?_)
      refine c_false rfl ?_
      refine c_skip (n_block ?_)
      exact .inl ⟨by rw [ccI, hs1]; rfl, rfl, _, ⟨Lc1, by rw [lab_out hs1]; exact hJ1, rfl⟩, hW⟩
    ·intro ds rq W Lc hc hJ hM he hW
     obtain ⟨Lc1, hJ1, rfl⟩ := hJ
     have e9 : cntI s y x.1 (s.d.toNat - x.1) = cntL s y (x.1 + 1) := by rw [cntI_end (by omega), cntL_two y _ hk]
     have hcc3 := cc_run hcc1 _ hc
     rw [e9] at hJ1 hcc3
     refine n_block (n_block (n_then (c_seq (c_seq (c_reg ?_)))))
     refine dC hW 2 tyC111 ?_
     refine l_end (n_then (c_reg ?_))
     refine l_allocC hW tyZ111 rfl rfl rfl rfl ?_
     intro g4 W hW
     refine l_storeC hW 0 tyC111 (v := .int _ _) rfl rfl rfl rfl rfl rfl (by first | rfl | omega | (simp; done) | (simp; omega)) rfl ?_
     intro W hW
     refine l_end (n_then (c_reg ?_))
     refine dC hW 0 tyC111 ?_
     refine aI ?_
     refine l_call hW (g_down y s.d.toNat x.1 hy0 hy2 hly hlt) en110 rfl rfl rfl rfl ?_
     intro W hW
     refine l_storeC hW 0 tyC111 (v := .int _ _) rfl rfl rfl rfl rfl rfl (by first | rfl | omega | (simp; done) | (simp; omega)) rfl ?_
     intro W hW
     refine l_end (n_then ?_)
     exact loop_nextD (x.1 + 1, g4, Lc1) (by kernel_rfl) hM (hW.sub (.cons_cons _ (.cons _ (.cons _ (.cons _ (List.Sublist.refl _)))))) ⟨by simp only; omega, fun j hj => hcc3 j hj, hJ1⟩ (by simp only; omega)
    ·intro ds rq W Lc hc hJ hM hW
     obtain ⟨Lc1, hJ1, rfl⟩ := hJ
     refine r_block (r_block (r_then (r_then (r_block ?_))))
     refine ret_marks hM hW fun W hW => ?_
     refine ret_none rfl ?_
     obtain ⟨j, hj, hc⟩ := hc
     obtain ⟨hs1, hc1⟩ := cc_stop hc
     exact ⟨⟨_, rfl⟩, .inr ⟨⟨_, (lab_in hlab (by omega) hs1).1, hc1⟩, Lc1, hJ1, hW.drop 4⟩⟩
  ·intro hc2
   replace hc2 := of_decide_eq_false hc2
   have hxn : x.1 = s.d.toNat := Classical.byContradiction fun hne => by rw [show sh y (s.d.toNat - x.1) = y by omega] at hlv; omega
   refine l_end (n_then ?_)
   refine c_false rfl ?_
   refine c_exit (x_then (x_then ?_))
   refine x_hit ?_
   refine end_marks hM hW fun W hW => ?_
   refine ret_none rfl ?_
   have e9 : cntL s y x.1 = (labN s u).length := by rw [hxn, cntL_end hyu]
   exact ⟨⟨_, rfl⟩, .inl ⟨fun j hj => hcc j (by rw [e9]; exact hj), x.2.2, e9 ▸ hJx, hW.drop 2⟩⟩
 ·intro hc1
  obtain ⟨Lc1, hJ1, hW⟩ := hW.2 hc1
  replace hM := hM.stp hS
  refine l_val (r_not rfl rfl) rfl rfl ?_
  refine l_end (n_then ?_)
  refine c_true rfl ?_
  refine c_ret (r_then ?_)
  refine ret_marks hM hW fun W hW => ?_
  refine ret_none rfl ?_
  exact ⟨⟨_, rfl⟩, .inr ⟨⟨0, lab_pos s u, hc1⟩, Lc1, hJ1, hW.drop 1⟩⟩

end Go.Proofs.YtoegpalacppllaaGreat

/- Whether a receiver has a label that leads to a subset. -/
namespace Go.Proofs.YtoegpalacppllaaGreat
open Go.RowKit Pl
open Tr Hn
set_option maxRecDepth 10000 in
/-- (headend/cover.tree).labels -/
theorem g_plabels (s : Sc) (u : Nat) : GivesX Tryz.prog 64 [.agg [.int .u8 s.k, .int .i64 s.d, .int .i64 (strideN s.d : Int)].toArray, .int .i64 (u : Int)].toArray (fun _ => True) (fun v Bs => ∃ g1 g2, v = .func (.func 109) #[] #[.pointer (some ⟨g1, 0, none⟩), .pointer (some ⟨g2, 0, none⟩)] ∧ Bs = [⟨g2, [.int .i64 (u : Int)], 3⟩, ⟨g1, [.int .u8 s.k, .int .i64 s.d, .int .i64 (strideN s.d : Int)], 106⟩]) := by
 refine givesX_of Tryz.func64 rfl (bs := [.agg [.int .u8 s.k, .int .i64 s.d, .int .i64 (strideN s.d : Int)].toArray, .int .i64 (u : Int), undef, undef, undef, undef]) rfl ?_
 intro w hP hW
 refine c_seq (c_reg ?_)
 refine xB hW ?_
 intro g1 W hW
 refine l_boxC hW (v := .int _ _) rfl rfl rfl rfl rfl ?_
 intro g2 W hW
 refine l_val (r_assign (v := .nilFunc) rfl rfl) rfl rfl ?_
 refine l_end (n_then (c_seq (c_reg ?_)))
 refine l_val (r_closure (vs := [.pointer (some ⟨g1, 0, none⟩), .pointer (some ⟨g2, 0, none⟩)]) rfl rfl) rfl rfl ?_
 refine l_val (r_assign (v := .func _ _ _) rfl rfl) rfl rfl ?_
 refine l_end (n_then (c_ret ?_))
 refine ret_tmp (v := .func _ _ _) rfl rfl ?_
 exact ⟨_, _, rfl, ⟨_, _, rfl, rfl⟩, hW⟩

set_option maxRecDepth 10000 in
/-- (headend/cover.node).below -/
theorem g_pbelowL (y v : Int) (hy : y < 1) : Gives Tryz.prog 114 [.int .i64 y, .int .i64 v].toArray (.bool false) := by
 refine gives_of Tryz.func114 rfl (bs := [.int .i64 y, .int .i64 v, undef, undef, undef, undef, undef, undef, undef, undef, undef, undef, undef, undef, undef, undef, undef, undef, undef, undef, undef, undef, undef, undef, undef, undef, undef]) rfl ?_
 intro w hW
 refine c_seq (c_reg ?_)
 refine bB ?_
 refine l_end (n_then (c_seq (c_seq (c_reg ?_))))
 refine aI ?_
 refine l_val (r_lss rfl rfl rfl rfl) rfl rfl ?_
 refine l_split ?_ ?_
 ·intro hc1
  replace hc1 := of_decide_eq_true hc1
  refine aB ?_
  refine lN ?_
  refine lN ?_
  refine kB ?_
  refine aB ?_
  refine lN ?_
  refine lN ?_
  refine lN ?_
  refine lN ?_
  refine lN ?_
  refine kB ?_
  refine l_end (n_then ?_)
  refine c_true rfl ?_
  refine c_seq (c_reg ?_)
  refine bB ?_
  refine l_end (n_then (c_ret (r_then ?_)))
  refine ret_tmp (v := .bool false) rfl ?_ ⟨rfl, hW.below⟩
  rfl
 ·intro hc1
  replace hc1 := of_decide_eq_false hc1
  omega

/-- below, where it may be no node -/
theorem g_pbelowX (y v : Int) (hy2 : y < 128) (hv : 0 < v) (hv2 : v < 128) : Gives Tryz.prog 114 [.int .i64 y, .int .i64 v].toArray (.bool (decide (1 ≤ y) && belowN y.toNat v.toNat)) := by
 by_cases h : y < 1
 ·rw [decide_eq_false (show ¬ 1 ≤ y by omega)]
  exact g_pbelowL y v h
 ·rw [decide_eq_true (show 1 ≤ y by omega)]
  exact g_pbelowZZ y v (by omega) (by omega) (by omega) (by omega)
end Go.Proofs.YtoegpalacppllaaGreat

/- A region that draws its order, order by order. No function of the program is in sight here. -/
namespace Go.Proofs.YtoegpalacppllaaGreat
open Go.RowKit
def thenA (Q : Exit → Act → World → Prop) (K : Act → World → Prop) : Exit → Act → World → Prop
  | .normal => K
  | .panic c => Q (.panic c)
  | .exit i => Q (.exit i)
  | .ret => Q .ret
  | e => Q e
def AllA : List Nat → (Nat → Prop) → Prop
  | [], _ => True
  | k :: l, p => p k ∧ AllA l p
section
variable {P : Program} {ops : Array Oper} {Q : Exit → Act → World → Prop} {a : Act} {w0 : Base} {W : World} {L : List Blk} {r : Option (Option Nat)} {m : Nat} {o : Oper} {K : Act → World → Prop}
theorem OW.A {i : Nat} {K' : Act → World → Prop} (h : OW r m P ops (thenA Q K) i K' a W) : OW r m P ops Q i K' a W := by
  cases r with
  | none => exact h
  | some k => exact h
theorem AllA.of {p : Nat → Prop} : ∀ {l : List Nat}, AllA l p → ∀ k ∈ l, p k
  | k :: l, h, j, hj => by
    rcases List.mem_cons.1 hj with rfl | hj
    · exact h.1
    · exact AllA.of h.2 j hj
theorem AW.A {X : Act → World → Prop} (hk : ∀ a W, X a W → Q .normal a W) : ∀ (f : Nat) (done : Array Bool) (a : Act) (W : World), AW r m P .any ops (thenA Q X) f done a W → AW r m P .any ops Q f done a W := by
  intro f
  induction f with
  | zero =>
    intro done a W h
    cases r with
    | none => exact ⟨h.1, hk _ _ h.2⟩
    | some k => exact ⟨h.1, hk _ _ h.2⟩
  | succ f ih =>
    intro done a W h
    have hs : ∀ i ∈ Region.ready .any ops done, OW r m P ops Q i (AW r m P .any ops Q f (done.setIfInBounds i true)) a W := fun i hi => OW.A (OW.mono (fun a w h => ih _ a w h) (AW.get h hi))
    have h0 : Region.ready .any ops done = [] → thenA Q X .normal a W := by cases r <;> exact h.1
    cases r with
    | none => exact ⟨fun e => hk _ _ (h0 e), hs⟩
    | some k => exact ⟨fun e => hk _ _ (h0 e), hs⟩
end
end Go.Proofs.YtoegpalacppllaaGreat

/- Whether a number is in a list; subsets of a scheme that is not valid. -/
namespace Go.Proofs.YtoegpalacppllaaGreat
open Go.RowKit Pl
open Tr Hn
set_option maxRecDepth 10000 in
/-- headend/cover.enter -/
theorem g_enterX (s : Sc) (ra : Option Addr) (rn rc : Nat) (l : List (Int × Int)) (hs : schB s = false) : GivesR Tryz.prog 51 [.agg [.int .u8 s.k, .int .i64 s.d, .int .i64 s.g, .int .u64 s.p, .int .u64 s.q, .int .u64 s.r].toArray, .slice ra rn rc].toArray (fun w => RdB w ⟨ra, rn, rc⟩ l) (.tuple #[.agg ([.int .u8 0, .int .i64 0, .int .i64 0]).toArray, .int .i64 30]) := by
 refine givesR_of Tryz.func51 rfl (bs := [.agg [.int .u8 s.k, .int .i64 s.d, .int .i64 s.g, .int .u64 s.p, .int .u64 s.q, .int .u64 s.r].toArray, .slice ra rn rc, undef, undef, undef, undef, undef, undef, undef, undef, undef, undef, undef, undef, undef, undef, undef, undef, undef, undef, undef, undef, undef, undef, undef, undef, undef, undef, undef, undef, undef]) rfl ?_
 intro w hP hW
 refine c_seq (c_reg ?_)
 refine xB hW ?_
 intro g1 W hW
 refine l_alloc hW tyZ106 rfl rfl rfl ?_
 intro g2 W hW
 refine bI ?_
 refine l_end (n_then (c_seq (c_reg ?_)))
 refine dA hW 1 tyA26 ?_
 refine l_call hW (g_treeOf s) en98 rfl rfl rfl rfl ?_
 intro W hW
 rw [treeC_no hs, hs]
 refine l_val (r_move (v := .tuple _) rfl rfl) rfl rfl ?_
 refine l_val (r_extract (v := .agg _) rfl rfl rfl) rfl rfl ?_
 refine l_val (r_extract (v := .bool _) rfl rfl rfl) rfl rfl ?_
 refine l_alloc hW tyZ106 rfl rfl rfl ?_
 intro g3 W hW
 refine sA hW 0 tyA106 ?_
 intro W hW
 refine bB ?_
 refine l_end (n_then (c_seq (c_seq (c_reg ?_))))
 refine aB ?_
 refine l_val (r_not rfl rfl) rfl rfl ?_
 refine l_end (n_then ?_)
 refine c_true rfl ?_
 refine c_seq (c_reg ?_)
 refine l_val (r_build (ps := []) (bld106_) rfl rfl) rfl rfl ?_
 refine sA hW 1 tyA106 ?_
 intro W hW
 refine bI ?_
 refine l_end (n_then (c_ret (r_then ?_)))
 refine rT hW 1 tyA106 ?_
 exact ⟨rfl, hW.below⟩

end Go.Proofs.YtoegpalacppllaaGreat

/- What the end of a trace tells, as the outright statements ask. No program is in sight here. -/
namespace Go.Proofs.YtoegpalacppllaaGreat.Tr
open Hn

/-- the receivers of a list, in order -/
def restL (t : List Int) (n : Nat) : List Int := (rangeI n).filter fun u => t.contains u
theorem restL_le (t : List Int) (n : Nat) : (restL t n).length ≤ n := Nat.le_trans (List.length_filter_le _ _) (by rw [len_rangeI]; exact Nat.le_refl _)
theorem mem_restL {t : List Int} {n : Nat} {x : Int} : x ∈ restL t n ↔ (0 ≤ x ∧ x < n) ∧ x ∈ t := by
  rw [restL, List.mem_filter, mem_rangeI, List.contains_iff_mem]
theorem restL_nodup (t : List Int) (n : Nat) : (restL t n).Nodup := List.Pairwise.filter _ (nodup_rangeI n)
theorem len_eq_of {a b : List Int} (ha : a.Nodup) (hb : b.Nodup) (h : ∀ x, x ∈ a ↔ x ∈ b) : a.length = b.length :=
  Nat.le_antisymm (List.Nodup.length_le_of_subset ha fun x hx => (h x).1 hx) (List.Nodup.length_le_of_subset hb fun x hx => (h x).2 hx)
theorem restL_len {t : List Int} {n : Nat} (hn : t.Nodup) (hr : ∀ x ∈ t, 0 ≤ x ∧ x < n) : (restL t n).length = t.length :=
  len_eq_of (restL_nodup t n) hn fun x => ⟨fun h => (mem_restL.1 h).2, fun h => mem_restL.2 ⟨hr x h, h⟩⟩
/-- whether subsets are valid, and no receiver is a member of two -/
def memsB (s : Sc) (l : List (Int × Int)) : Bool := (List.range l.length).all (fun i => schB s && subB s (qn l i) (qm l i)) && decide (allm s l).Nodup
/-- the receivers of some subsets -/
def memsL (s : Sc) (l : List (Int × Int)) : List Int := if memsB s l then restL (allm s l) 64 else []
/-- a trace without an error -/
structure TrOk (b : Bo) (l : List (Int × Int)) (noise : Int) (r : Ts × Nat) : Prop where
  s : schB b.s = true
  box : chkB b = 0
  n0 : 0 ≤ noise
  n8 : noise ≤ 8
  lim : b.a + lim b.s.d noise ≤ 100000
  sub : ∀ i, i < l.length → subB b.s (qn l i) (qm l i) = true
  nd : (allm b.s l).Nodup
  fin : Fin (2 * noise.toNat + 1) b (allm b.s l) r
theorem all_64 {s : Sc} {l : List (Int × Int)} (hs : schB s = true) : ∀ x ∈ allm s l, 0 ≤ x ∧ x < 64 := fun x hx => by
  have h1 := all_lt hx
  have h2 := p2_le (n := s.d.toNat) (by have := schB_iff.1 hs; omega)
  omega
theorem trace_ok {b : Bo} {l : List (Int × Int)} {noise : Int} (h : traceE b l noise = 0) (hn : b.n ≤ noise) : TrOk b l noise (traceT b l noise) := by
  by_cases hc : chkB b ≠ 0
  · rw [trE_b hc] at h; exact absurd h hc
  · by_cases hp : partsE b.s l ≠ 0
    · rw [trE_p hc hp] at h; exact absurd h hp
    · by_cases hno : 0 ≤ noise ∧ noise ≤ 8
      · by_cases hlm : 100000 < b.a + lim b.s.d noise
        · rw [trE_f hc hp hno hlm] at h; exact absurd h (by decide)
        · obtain ⟨hs, hu, h1, h2, h3, h4, h5, h6, h7, h8, h9, h10⟩ := chkB_ok hc
          obtain ⟨-, hpe, hnd⟩ := parts_ok hp
          obtain ⟨-, hbb⟩ := subsE_ok (show ¬ subsE b.s l ≠ 0 by omega)
          refine ⟨hs, Classical.not_not.1 hc, hno.1, hno.2, by omega, hbb, hnd, ?_⟩
          rw [traceT, if_pos h]
          exact traced_law hs hu hnd (all_64 hs) ⟨h3, h4, h9, h10⟩ (by omega) (Nat.lt_succ_self _) (Tin.first hs h9 h10 hbb hnd) fun u hu => by cases hu
      · rw [trE_n hc hp hno] at h; exact absurd h (by decide)
section
variable {b : Bo} {l : List (Int × Int)} {noise : Int} {r : Ts × Nat} (k : TrOk b l noise r)
include k
theorem TrOk.asked : (r.1.a : Int) ≤ boundV b.s noise ∧ boundE b.s noise = 0 := by
  obtain ⟨h1, h2⟩ := bound_ok k.s ⟨k.n0, k.n8⟩
  have hd := schB_iff.1 k.s
  rw [h1, h2, lim_nat (by omega) k.n0]
  have := k.fin.fit
  exact ⟨by omega, rfl⟩
theorem TrOk.nd2 : (allm b.s r.1.l ++ r.1.nm).Nodup := (k.fin.part.perm.nodup_iff).2 k.nd
theorem TrOk.okb : Okb b := by
  obtain ⟨hs, hu, h1, h2, h3, h4, h5, h6, h7, h8, h9, h10⟩ := chkB_ok (show ¬ chkB b ≠ 0 by have := k.box; omega)
  exact ⟨h3, h4, h9, h10⟩
theorem TrOk.s' : r.1.b.s = b.s := k.fin.ask.s
theorem TrOk.subs' : r.1.l.length ≤ 64 ∧ ∀ i, i < r.1.l.length → subB b.s (qn r.1.l i) (qm r.1.l i) = true := by
  have hd := schB_iff.1 k.s
  have h1 := (len_le k.s k.nd k.fin.part).2
  have h2 := p2_le (n := b.s.d.toNat) (by omega)
  exact ⟨by omega, fun i hi => k.fin.part.sub _ (q_mem.2 ⟨i, hi, rfl⟩)⟩
theorem TrOk.before : memsB b.s l = true ∧ memsL b.s l = restL (allm b.s l) 64 := by
  have h : memsB b.s l = true := by
    rw [memsB, Bool.and_eq_true, List.all_eq_true]
    exact ⟨fun i hi => by rw [k.s, k.sub i (List.mem_range.1 hi)]; rfl, decide_eq_true k.nd⟩
  exact ⟨h, if_pos h⟩
theorem TrOk.after : memsB b.s r.1.l = true ∧ memsL b.s r.1.l = restL (allm b.s r.1.l) 64 := by
  have h : memsB b.s r.1.l = true := by
    rw [memsB, Bool.and_eq_true, List.all_eq_true]
    exact ⟨fun i hi => by rw [k.s, k.subs'.2 i (List.mem_range.1 hi)]; rfl, decide_eq_true (List.nodup_append.1 k.nd2).1⟩
  exact ⟨h, if_pos h⟩
theorem TrOk.sum : (restL (allm b.s r.1.l) 64).length + r.1.nm.length = (restL (allm b.s l) 64).length := by
  rw [restL_len (List.nodup_append.1 k.nd2).1 (all_64 k.s), restL_len k.nd (all_64 k.s), ← k.fin.part.perm.length_eq, List.length_append]
theorem TrOk.named {u : Int} (hu : u ∈ r.1.nm) : u ∈ b.l ∧ u ∈ restL (allm b.s l) 64 ∧ u ∉ restL (allm b.s r.1.l) 64 := by
  have h1 := k.fin.part.perm.subset (List.mem_append_right _ hu)
  exact ⟨k.fin.col u hu, mem_restL.2 ⟨all_64 k.s u h1, h1⟩, fun h => (List.nodup_append.1 k.nd2).2.2 u (mem_restL.1 h).2 u hu rfl⟩
/-- the queries behind a trace -/
theorem TrOk.run (j : Nat) : Askd r.1.b (asks r.1.o 0 j r.1.b) j := by
  have := asks_run r.1.o 0 j (k.okb.run k.fin.ask).refl
  rwa [Nat.zero_add] at this
theorem TrOk.quiet (j : Nat) : plays (asks r.1.o 0 j r.1.b) r.1.o 0 = false := by
  cases h : plays (asks r.1.o 0 j r.1.b) r.1.o 0 with
  | false => rfl
  | true =>
    obtain ⟨h1, h2, -⟩ := plays_iff.1 h
    have hr := k.run j
    rw [wish_same hr] at h1
    rcases k.fin.shut with hs | hs
    · rw [h1] at hs; cases hs
    · have hd := dead_mono (hr.ask r.1.o 0) hs
      have := of_decide_eq_true hd
      rw [(hr.ask r.1.o 0).v, ← hr.v] at this
      exact absurd this h2
/-- of an immortal box all are named -/
theorem TrOk.all (hv : b.v = 0) {u : Int} (hu : u ∈ b.l) (hb : u ∈ restL (allm b.s l) 64) : u ∈ r.1.nm := by
  have h1 := (k.fin.all hv).2
  have h2 := (k.fin.part.perm.symm.subset (mem_restL.1 hb).2)
  rcases List.mem_append.1 h2 with h | h
  · exfalso
    obtain ⟨m, hm, hx⟩ := List.mem_flatten.1 h
    obtain ⟨y, hy, rfl⟩ := List.mem_map.1 hm
    obtain ⟨i, hi, e⟩ := q_mem.1 hy
    have hmem := (members_lt hx).2.2
    have ho := mem_opn (s := b.s) hu hmem
    rw [wish_zero, show r.1.o.length = r.1.l.length from opens_len _ _ _] at h1
    have := anyB_iff.1 h1 i hi
    rw [Ts.o, opens_getD hi, k.s', k.fin.ask.l] at this
    rw [e] at ho
    rw [ho] at this; cases this
  · exact h
end
end Go.Proofs.YtoegpalacppllaaGreat.Tr

/- Whether a list knows a subset. -/
namespace Go.Proofs.YtoegpalacppllaaGreat
open Go.RowKit Pl
open Tr Hn
set_option maxRecDepth 10000 in
/-- (headend/cover.tree).receiver -/
theorem g_preceiver (s : Sc) (u : Int) (h0 : 0 ≤ s.d) (h6 : s.d ≤ 6) : Gives Tryz.prog 63 [.agg [.int .u8 s.k, .int .i64 s.d, .int .i64 (strideN s.d : Int)].toArray, .int .i64 u].toArray (.bool (decide (0 ≤ u ∧ u < ((p2 s.d.toNat : Nat) : Int)))) := by
 refine gives_of Tryz.func63 rfl (bs := [.agg [.int .u8 s.k, .int .i64 s.d, .int .i64 (strideN s.d : Int)].toArray, .int .i64 u, undef, undef, undef, undef, undef, undef, undef, undef, undef, undef, undef]) rfl ?_
 intro w hW
 have hp := p2_le (n := s.d.toNat) (by omega)
 refine c_seq (c_reg ?_)
 refine xB hW ?_
 intro g1 W hW
 refine bB ?_
 refine l_end (n_then (c_seq (c_reg ?_)))
 refine aI ?_
 refine l_val (r_geq rfl rfl rfl rfl) rfl rfl ?_
 refine l_split ?_ ?_
 ·intro hc1
  replace hc1 := of_decide_eq_true hc1
  refine aB ?_
  refine gI ?_
  refine l_loadAG hW 0 tyA106 (by kernel_rfl) rfl rfl rfl rfl (by first | rfl | exact kc_len _ | exact kcf_len _ | exact boC_len _ _ | (simp; done)) ?_
  refine l_callG hW (g_psize s (by omega) (by omega)) en99 (by kernel_rfl) rfl rfl rfl ?_
  intro W hW
  refine l_valG (r_lss rfl rfl rfl rfl) (by kernel_rfl) rfl ?_
  refine kB ?_
  refine bB ?_
  refine l_end (n_then (c_ret ?_))
  refine ret_tmp (v := .bool (decide (0 ≤ u ∧ u < ((p2 s.d.toNat : Nat) : Int)))) rfl ?_ ⟨rfl, hW.below⟩
  exact congrArg Value.bool (decide_eq_decide.2 (by omega))
 ·intro hc1
  replace hc1 := of_decide_eq_false hc1
  refine aB ?_
  refine lN ?_
  refine lN ?_
  refine lN ?_
  refine lN ?_
  refine kB ?_
  refine bB ?_
  refine l_end (n_then (c_ret ?_))
  refine ret_tmp (v := .bool (decide (0 ≤ u ∧ u < ((p2 s.d.toNat : Nat) : Int)))) rfl ?_ ⟨rfl, hW.below⟩
  exact congrArg Value.bool (decide_eq_false (by omega)).symm

set_option maxRecDepth 10000 in
/-- (headend/cover.tree).list -/
theorem g_plist (s : Sc) (d0 : 0 ≤ s.d) (d6 : s.d ≤ 6) (aa : Option Addr) (an ac : Nat) (l : List Int) (hl : l.length ≤ 4294967296) : GivesR Tryz.prog 52 [.agg [.int .u8 s.k, .int .i64 s.d, .int .i64 (strideN s.d : Int)].toArray, .slice aa an ac].toArray (fun w => RdI w ⟨aa, an, ac⟩ l) (.bool (usersB l ((p2 s.d.toNat : Nat) : Int))) := by
 refine givesR_of Tryz.func52 rfl (bs := [.agg [.int .u8 s.k, .int .i64 s.d, .int .i64 (strideN s.d : Int)].toArray, .slice aa an ac, undef, undef, undef, undef, undef, undef, undef, undef, undef, undef, undef, undef, undef, undef, undef, undef, undef, undef, undef, undef, undef, undef, undef, undef, undef, undef, undef, undef, undef, undef]) rfl ?_
 intro w hP hW
 have hn : an = l.length := hP.len
 refine c_seq (c_reg ?_)
 refine xB hW ?_
 intro g1 W hW
 refine bB ?_
 refine l_end (n_then (c_seq (c_seq (c_reg ?_))))
 refine aS ?_
 refine l_val (r_lenSlice Tryz.underlying27 rfl rfl) rfl rfl ?_
 refine aI ?_
 refine l_end (n_then (c_block ?_))
 refine c_loop (fun (i : Nat) (j : Nat → Value) => [.agg [.int .u8 s.k, .int .i64 s.d, .int .i64 (strideN s.d : Int)].toArray, .slice aa an ac, .pointer (some ⟨g1, 0, none⟩), j 3, j 4, j 5, j 6, .slice aa an ac, .int .i64 (an : Int), .int .i64 (i : Int), j 10, j 11, j 12, j 13, j 14, j 15, j 16, j 17, j 18, j 19, j 20, j 21, j 22, j 23, j 24, j 25, j 26, j 27, j 28, j 29, j 30, j 31]) (fun (i : Nat) => [⟨g1, [.int .u8 s.k, .int .i64 s.d, .int .i64 (strideN s.d : Int)], 106⟩]) (fun (i : Nat) => i ≤ an ∧ ∀ k, k < i → 0 ≤ at_ l k ∧ at_ l k < ((p2 s.d.toNat : Nat) : Int) ∧ (k = 0 ∨ at_ l (k - 1) < at_ l k)) (fun (i : Nat) => an - i) 0 (by kernel_rfl) hW ⟨by omega, all_zero⟩ ?_
 intro i j W hx hW
 refine c_seq (c_reg ?_)
 refine l_val (r_lssN rfl rfl rfl rfl) rfl rfl ?_
 refine l_split ?_ ?_
 ·intro hc1
  replace hc1 := of_decide_eq_true hc1
  obtain ⟨b0, o0, ha, hc⟩ := hP.ptr (by omega)
  simp only at ha
  subst ha
  refine l_end (n_then (c_seq ?_))
  refine c_true rfl ?_
  refine c_skip (n_then (c_seq (c_block (c_seq (c_reg ?_)))))
  refine aI ?_
  refine l_val (r_indexAddrSl2 (n := i) Tryz.underlying27 tyC3.size rfl rfl rfl (by omega)) rfl rfl ?_
  refine l_loadF hW tyC3 (v := .int .i64 (at_ l (i))) (hc (i) (by omega)) rfl rfl rfl rfl ?_
  refine bI ?_
  refine bI ?_
  refine l_end (n_then (c_seq (c_reg ?_)))
  refine dA hW 0 tyA106 ?_
  refine aI ?_
  refine l_call hW (g_preceiver s (at_ l i) d0 d6) en63 rfl rfl rfl rfl ?_
  intro W hW
  refine l_split ?_ ?_
  ·intro hc2
   replace hc2 := of_decide_eq_true hc2
   refine l_val (r_not rfl rfl) rfl rfl ?_
   refine aB ?_
   refine gI ?_
   refine l_valG (r_gtrN (n := 0) rfl rfl rfl rfl) (by kernel_rfl) rfl ?_
   refine l_split ?_ ?_
   ·intro hc3
    replace hc3 := of_decide_eq_true hc3
    refine l_valG (r_move (v := .bool _) rfl rfl) (by kernel_rfl) rfl ?_
    refine gI ?_
    refine l_valG (r_move (v := .slice _ _ _) rfl rfl) (by kernel_rfl) rfl ?_
    refine gI ?_
    refine l_valG (r_subN (n := 1) rfl rfl rfl (by omega) (by omega)) (by kernel_rfl) rfl ?_
    refine l_valG (r_indexAddrSl2 (n := (i - 1)) Tryz.underlying27 tyC3.size rfl rfl rfl (by omega)) (by kernel_rfl) rfl ?_
    refine l_loadFG hW tyC3 (v := .int .i64 (at_ l (i - 1))) (hc (i - 1) (by omega)) (by kernel_rfl) rfl rfl rfl ?_
    refine l_valG (r_leq rfl rfl rfl rfl) (by kernel_rfl) rfl ?_
    refine l_split ?_ ?_
    ·intro hc4
     replace hc4 := of_decide_eq_true hc4
     refine l_valG (r_pick (v := .bool _) rfl rfl rfl) (by kernel_rfl) rfl ?_
     refine kB ?_
     refine l_end (n_then ?_)
     refine c_true rfl ?_
     refine c_seq (c_reg ?_)
     refine bB ?_
     refine l_end (n_then (c_ret (r_block (r_then (r_then (r_block (r_then ?_)))))))
     refine ret_tmp (v := .bool (usersB l ((p2 s.d.toNat : Nat) : Int))) rfl ?_ ⟨rfl, hW.below⟩
     rw [users_no (i := i) (by omega) (by omega)]; rfl
    ·intro hc4
     replace hc4 := of_decide_eq_false hc4
     refine l_valG (r_pick (v := .bool _) rfl rfl rfl) (by kernel_rfl) rfl ?_
     refine kB ?_
     refine l_end (n_then ?_)
     refine c_false rfl ?_
     refine c_skip (n_block (n_then (c_reg ?_)))
     refine l_val (r_addN (n := 1) rfl rfl rfl (by omega)) rfl rfl ?_
     refine aI ?_
     refine l_end (n_then ?_)
     exact loop_next (i + 1) (by kernel_rfl) hW ⟨by omega, all_step hx.2 (by omega)⟩ (by omega)
   ·intro hc3
    replace hc3 := of_decide_eq_false hc3
    refine l_valG (r_move (v := .bool _) rfl rfl) (by kernel_rfl) rfl ?_
    refine lN ?_
    refine lN ?_
    refine lN ?_
    refine lN ?_
    refine lN ?_
    refine lN ?_
    refine lN ?_
    refine l_valG (r_pick (v := .bool _) rfl rfl rfl) (by kernel_rfl) rfl ?_
    refine kB ?_
    refine l_end (n_then ?_)
    refine c_false rfl ?_
    refine c_skip (n_block (n_then (c_reg ?_)))
    refine l_val (r_addN (n := 1) rfl rfl rfl (by omega)) rfl rfl ?_
    refine aI ?_
    refine l_end (n_then ?_)
    exact loop_next (i + 1) (by kernel_rfl) hW ⟨by omega, all_step hx.2 (by omega)⟩ (by omega)
  ·intro hc2
   replace hc2 := of_decide_eq_false hc2
   refine l_val (r_not rfl rfl) rfl rfl ?_
   refine aB ?_
   refine lN ?_
   refine lN ?_
   refine lN ?_
   refine lN ?_
   refine lN ?_
   refine lN ?_
   refine lN ?_
   refine lN ?_
   refine lN ?_
   refine lN ?_
   refine lN ?_
   refine kB ?_
   refine l_end (n_then ?_)
   refine c_true rfl ?_
   refine c_seq (c_reg ?_)
   refine bB ?_
   refine l_end (n_then (c_ret (r_block (r_then (r_then (r_block (r_then ?_)))))))
   refine ret_tmp (v := .bool (usersB l ((p2 s.d.toNat : Nat) : Int))) rfl ?_ ⟨rfl, hW.below⟩
   rw [users_no (i := i) (by omega) (by omega)]; rfl
 ·intro hc1
  replace hc1 := of_decide_eq_false hc1
  refine l_end (n_then (c_seq ?_))
  refine c_false rfl ?_
  refine c_exit (x_then (x_then ?_))
  refine x_hit ?_
  refine n_then (c_seq (c_reg ?_))
  refine bB ?_
  refine l_end (n_then (c_ret ?_))
  refine ret_tmp (v := .bool (usersB l ((p2 s.d.toNat : Nat) : Int))) rfl ?_ ⟨rfl, hW.below⟩
  rw [users_yes hn fun k hk => hx.2 k (by omega)]; rfl

end Go.Proofs.YtoegpalacppllaaGreat

/- Paths, yielded to the end. -/
namespace Go.Proofs.YtoegpalacppllaaGreat
open Go.RowKit Pl
open Tr Hn
set_option maxRecDepth 10000 in
/-- headend/cover.path$1 -/
theorem i_path (y n ga_ gb_ : Nat) (h0 : 0 < y) (hy : y < 128) (hn : n ≤ lev y) : Iter Tryz.prog 137 #[.pointer (some ⟨ga_, 0, none⟩), .pointer (some ⟨gb_, 0, none⟩)] n (fun i => #[.int .i64 ((sh y (n - (i + 1)) : Nat) : Int)]) [⟨gb_, [.int .i64 (y : Int)], 111⟩, ⟨ga_, [.int .i64 ((sh y n : Nat) : Int)], 111⟩] := by
 refine iter_of (lb := [.pointer (some ⟨ga_, 0, none⟩), .pointer (some ⟨gb_, 0, none⟩)]) (F := fun l => [.func (.yield l) #[] #[], .pointer (some ⟨ga_, 0, none⟩), .pointer (some ⟨gb_, 0, none⟩), undef, undef, undef, undef, undef, undef, undef, undef, undef, undef, undef, undef, undef]) Tryz.func137 rfl (fun l => rfl) ?_
 intro b l Lc W hY hW
 refine c_seq (c_reg ?_)
 refine l_loadC hW 1 tyC111 (v := .int .i64 ((sh y n : Nat) : Int)) rfl rfl rfl rfl rfl rfl ?_
 refine bI ?_
 refine l_end (n_then (c_block ?_))
 refine c_loop (fun (x : Nat) (j : Nat → Value) => [.func (.yield l) #[] #[], .pointer (some ⟨ga_, 0, none⟩), .pointer (some ⟨gb_, 0, none⟩), j 3, .int .i64 ((sh y (n - x) : Nat) : Int), .int .i64 ((sh y n : Nat) : Int), j 6, j 7, j 8, j 9, j 10, j 11, j 12, j 13, j 14, j 15]) (fun (x : Nat) => [] ++ ([⟨gb_, [.int .i64 (y : Int)], 111⟩, ⟨ga_, [.int .i64 ((sh y n : Nat) : Int)], 111⟩] ++ Lc x)) (fun (x : Nat) => x ≤ n) (fun (x : Nat) => n - x) 0 (by kernel_rfl) hW (Nat.zero_le _) ?_
 intro x j W hx hW
 have hlv := sh_lev hy (i := n - x) (by omega)
 have hle := sh_le y (n - x)
 have hpos : 0 < sh y (n - x) := sh_pos h0 hy (by omega)
 refine c_seq (c_seq (c_reg ?_))
 refine aI ?_
 refine l_loadC hW 0 tyC111 (v := .int .i64 (y : Int)) rfl rfl rfl rfl rfl rfl ?_
 refine l_val (r_neqN rfl rfl rfl rfl) rfl rfl ?_
 refine l_split ?_ ?_
 ·intro hc1
  replace hc1 := of_decide_eq_true hc1
  have hlt : x < n := Nat.lt_of_le_of_ne (by omega) fun e => hc1 (by rw [e, Nat.sub_self]; rfl)
  refine l_end (n_then ?_)
  refine c_true rfl ?_
  refine c_skip (n_then (c_block (c_seq (c_reg ?_))))
  refine aI ?_
  refine l_loadC hW 0 tyC111 (v := .int .i64 (y : Int)) rfl rfl rfl rfl rfl rfl ?_
  refine l_call hW (g_ptoward (sh y (n - x)) y hpos (by omega) h0 hy (by omega)) en110 rfl rfl rfl rfl ?_
  intro W hW
  rw [show lev y - lev (sh y (n - x)) - 1 = n - (x + 1) by omega]
  refine bI ?_
  refine l_end (n_then (c_seq (c_reg ?_)))
  refine l_val (r_move (v := .func _ _ _) rfl rfl) rfl rfl ?_
  refine aI ?_
  refine l_yield (hY x [] W (by omega) hW) rfl rfl rfl rfl rfl ?_
  intro W hW
  refine l_val (r_not rfl rfl) rfl rfl ?_
  refine l_end (n_then ?_)
  refine c_false rfl ?_
  refine c_skip (n_block (n_then ?_))
  exact loop_next (x + 1) (by kernel_rfl) hW (by omega) (by omega)
 ·intro hc1
  replace hc1 := of_decide_eq_false hc1
  have hxn : x = n := Classical.byContradiction fun hne => by rw [show sh y (n - x) = y by omega] at hlv; omega
  refine l_end (n_then ?_)
  refine c_false rfl ?_
  refine c_exit (x_then (x_then ?_))
  refine x_hit ?_
  refine postM_of ?_
  refine end_none rfl ?_
  exact ⟨⟨_, rfl⟩, hxn ▸ hW⟩

end Go.Proofs.YtoegpalacppllaaGreat

/- Keys of subsets, by the program. -/
namespace Go.Proofs.YtoegpalacppllaaGreat
open Go.RowKit Pl
open Tr Hn
set_option maxRecDepth 10000 in
/-- headend/cover.descend -/
theorem g_descendN (k : Kw) (y n : Nat) (h0 : 0 < y) (hy : y < 128) (hn : n ≤ lev y) : Gives Tryz.prog 66 [keyV k, .int .i64 ((sh y n : Nat) : Int), .int .i64 (y : Int)].toArray (keyV (dk k y n n)) := by
 refine givesM_of Tryz.func66 rfl (bs := [keyV k, .int .i64 ((sh y n : Nat) : Int), .int .i64 (y : Int), undef, undef, undef, undef, undef, undef, undef, undef, undef, undef, undef, undef, undef, undef, undef, undef, undef]) rfl ?_
 intro w hW
 refine c_seq (c_reg ?_)
 refine xB hW ?_
 intro g1 W hW
 refine l_alloc hW tyZ29 rfl rfl rfl ?_
 intro g2 W hW
 refine l_end (n_then (c_seq (c_seq (c_reg ?_))))
 refine aI ?_
 refine aI ?_
 refine l_callX hW (g_ppath (sh y n) y) en101 trivial rfl rfl rfl rfl ?_
 rintro _ Bs1 W ⟨ga_, gb_, rfl, rfl⟩ hW
 replace hW := hW.perm List.perm_append_comm
 refine l_end (n_then (c_block ?_))
 refine c_range (i_path y n ga_ gb_ h0 hy hn) en137 rfl (fun _ => rfl) (fun (i : Nat) => [⟨g2, z29, 29⟩, ⟨g1, kc (dk k y n i), 29⟩]) hW (fun (i : Nat) => fr [keyV k, .int .i64 ((sh y n : Nat) : Int), .int .i64 (y : Int), .pointer (some ⟨g1, 0, none⟩), undef, undef, .pointer (some ⟨g2, 0, none⟩), .int .i64 ((sh y (n - (i + 1)) : Nat) : Int), undef, .int .i64 ((sh y n : Nat) : Int), .int .i64 (y : Int), .func (.func 137) #[] #[.pointer (some ⟨ga_, 0, none⟩), .pointer (some ⟨gb_, 0, none⟩)], .int .i64 ((sh y (n - (i + 1)) : Nat) : Int), undef, undef, undef, undef, undef, undef, undef] [] []) (fun (i : Nat) => [keyV k, .int .i64 ((sh y n : Nat) : Int), .int .i64 (y : Int), .pointer (some ⟨g1, 0, none⟩), undef, undef, .pointer (some ⟨g2, 0, none⟩), undef, undef, .int .i64 ((sh y n : Nat) : Int), .int .i64 (y : Int), .func (.func 137) #[] #[.pointer (some ⟨ga_, 0, none⟩), .pointer (some ⟨gb_, 0, none⟩)], .int .i64 ((sh y (n - (i + 1)) : Nat) : Int), undef, undef, undef, undef, undef, undef, undef]) (fun _ => by kernel_rfl) ?_ ?_ ?_
 ·intro l i W
  refine c_reg ?_
  refine bI ?_
  refine l_end ?_
  refine n_then ⟨?_, rfl⟩
  exact congrArg (fun x => (fr x [] [] : Act)) (by kernel_rfl)
 ·intro l r i L W hi hW
  refine c_block (c_seq (c_reg ?_))
  refine bI ?_
  refine l_end (n_then (c_seq (c_seq (c_reg ?_))))
  refine aI ?_
  refine l_val (r_remN (n := 2) rfl rfl rfl (by omega)) rfl rfl ?_
  refine l_val (r_eqlN (n := 1) rfl rfl rfl rfl) rfl rfl ?_
  refine l_split ?_ ?_
  ·intro hc1
   replace hc1 := of_decide_eq_true hc1
   have hst : dk k y n (i + 1) = derive (dk k y n i) 32 0 := if_neg (by omega)
   refine l_end (n_then ?_)
   refine c_true rfl ?_
   refine c_reg ?_
   refine bI ?_
   refine l_end (n_then (c_reg ?_))
   refine dA hW 3 tyA29 ?_
   refine aI ?_
   refine l_call hW (g_Derive (dk k y n i) 32 0) en50 rfl rfl rfl rfl ?_
   intro W hW
   refine sA hW 3 tyA29 ?_
   intro W hW
   refine l_end (n_block ?_)
   exact ⟨rfl, hW.to (by simp only [hst]; rfl)⟩
  ·intro hc1
   replace hc1 := of_decide_eq_false hc1
   have hst : dk k y n (i + 1) = derive (dk k y n i) 31 0 := if_pos (by omega)
   refine l_end (n_then ?_)
   refine c_false rfl ?_
   refine c_skip (n_then (c_reg ?_))
   refine dA hW 3 tyA29 ?_
   refine aI ?_
   refine l_call hW (g_Derive (dk k y n i) 31 0) en50 rfl rfl rfl rfl ?_
   intro W hW
   refine sA hW 3 tyA29 ?_
   intro W hW
   refine l_end (n_block ?_)
   exact ⟨rfl, hW.to (by simp only [hst]; rfl)⟩
 ·intro D r W hDb hW hD
  refine n_block (n_then (c_seq (c_reg ?_)))
  refine dA hW 3 tyA29 ?_
  refine sA hW 2 tyA29 ?_
  intro W hW
  refine l_end (n_then (c_ret ?_))
  refine r_mark hW hDb hD ?_
  intro r W hW
  refine rC hW 2 tyA29 ?_
  exact ⟨rfl, hW.below⟩

/-- the label of a node below -/
theorem g_descend (k : Kw) (v y : Nat) (h0 : 0 < y) (hy : y < 128) (hb : belowN y v = true) : Gives Tryz.prog 66 [keyV k, .int .i64 (v : Int), .int .i64 (y : Int)].toArray (keyV (descK k v y)) := by
 have h := g_descendN k y (lev y - lev v) h0 hy (Nat.sub_le _ _)
 rw [(below_iff.1 hb).2] at h
 exact h
set_option maxRecDepth 10000 in
/-- headend/cover.nodeKey -/
theorem g_nodeKey (k : Kw) (v : Nat) : Gives Tryz.prog 67 [keyV k, .int .i64 (v : Int)].toArray (keyV (derive k 30 (BitVec.ofNat 64 v))) := by
 refine gives_of Tryz.func67 rfl (bs := [keyV k, .int .i64 (v : Int), undef, undef, undef, undef, undef, undef, undef]) rfl ?_
 intro w hW
 refine c_seq (c_reg ?_)
 refine xB hW ?_
 intro g1 W hW
 refine l_alloc hW tyZ29 rfl rfl rfl ?_
 intro g2 W hW
 refine l_end (n_then (c_seq (c_reg ?_)))
 refine dA hW 1 tyA29 ?_
 refine aI ?_
 refine l_val (r_conv_i64_u64 Tryz.underlying111 Tryz.underlying22 rfl rfl) rfl rfl ?_
 refine l_call hW (g_Derive k 30 (BitVec.ofNat 64 v)) en50 rfl rfl rfl rfl ?_
 intro W hW
 refine sA hW 0 tyA29 ?_
 intro W hW
 refine l_end (n_then (c_ret ?_))
 refine rC hW 0 tyA29 ?_
 exact ⟨rfl, hW.below⟩

set_option maxRecDepth 10000 in
/-- headend/cover.middle -/
theorem g_middle (k : Kw) : Gives Tryz.prog 111 [keyV k].toArray (keyV (derive k 33 0)) := by
 refine gives_of Tryz.func111 rfl (bs := [keyV k, undef, undef, undef, undef]) rfl ?_
 intro w hW
 refine c_seq (c_reg ?_)
 refine xB hW ?_
 intro g1 W hW
 refine l_alloc hW tyZ29 rfl rfl rfl ?_
 intro g2 W hW
 refine l_end (n_then (c_seq (c_reg ?_)))
 refine dA hW 1 tyA29 ?_
 refine l_call hW (g_Derive k 33 0) en50 rfl rfl rfl rfl ?_
 intro W hW
 refine sA hW 0 tyA29 ?_
 intro W hW
 refine l_end (n_then (c_ret ?_))
 refine rC hW 0 tyA29 ?_
 exact ⟨rfl, hW.below⟩

set_option maxRecDepth 10000 in
/-- (headend/cover.tree).key -/
theorem g_pkey (s : Sc) (k : Kw) (v x : Nat) (hx2 : x < 128) (hb : s.k ≠ 1 → x ≠ 0 → belowN x v = true) : Gives Tryz.prog 65 [.agg [.int .u8 s.k, .int .i64 s.d, .int .i64 (strideN s.d : Int)].toArray, keyV k, .agg [.int .i64 (v : Int), .int .i64 (x : Int)].toArray].toArray (keyV (keyN k s v x)) := by
 refine gives_of Tryz.func65 rfl (bs := [.agg [.int .u8 s.k, .int .i64 s.d, .int .i64 (strideN s.d : Int)].toArray, keyV k, .agg [.int .i64 (v : Int), .int .i64 (x : Int)].toArray, undef, undef, undef, undef, undef, undef, undef, undef, undef, undef, undef, undef, undef, undef, undef, undef, undef, undef, undef, undef, undef, undef, undef, undef, undef, undef, undef, undef, undef]) rfl ?_
 intro w hW
 refine c_seq (c_reg ?_)
 refine xB hW ?_
 intro g1 W hW
 refine xB hW ?_
 intro g2 W hW
 refine xB hW ?_
 intro g3 W hW
 refine l_alloc hW tyZ29 rfl rfl rfl ?_
 intro g4 W hW
 refine l_end (n_then (c_seq ?_))
 refine c_regY hW [] [.q, .q, .q, .q, .q, .q] [0, 1, 0, 4, 3, 31] (by kernel_rfl) (by kernel_rfl) ?_
 refine y_val (r_fieldAddr 0 Tryz.underlying64 rfl tyC3.size rfl rfl rfl) rfl rfl ?_
 refine y_loadC 1 tyC3 rfl rfl rfl rfl rfl rfl (by decide) ?_
 refine y_val (r_fieldAddr 1 Tryz.underlying64 rfl tyC3.size rfl rfl rfl) rfl rfl ?_
 refine y_loadC 1 tyC3 rfl rfl rfl rfl rfl rfl (by decide) ?_
 refine y_val (r_assign (v := .int _ _) rfl rfl) rfl rfl ?_
 refine y_val (r_assign (v := .int _ _) rfl rfl) rfl rfl ?_
 refine y_end ?_
 intro W hW
 refine n_then (c_seq (c_block (c_seq (c_reg ?_))))
 refine l_val (r_fieldAddr 0 Tryz.underlying106 rfl tyC5.size rfl rfl rfl) rfl rfl ?_
 refine dC hW 3 tyC5 ?_
 refine l_val (r_eql rfl rfl rfl rfl) rfl rfl ?_
 refine l_split ?_ ?_
 ·intro hc1
  replace hc1 := of_decide_eq_true hc1
  refine bB ?_
  refine l_end (n_then ?_)
  refine c_true rfl ?_
  refine c_seq (c_reg ?_)
  refine dA hW 2 tyA29 ?_
  refine aI ?_
  refine l_call hW (g_nodeKey k v) en67 rfl rfl rfl rfl ?_
  intro W hW
  refine sA hW 0 tyA29 ?_
  intro W hW
  refine l_end (n_then (c_ret (r_block (r_then ?_))))
  refine rC hW 0 tyA29 ?_
  exact ⟨by rw [key_1 hc1]; rfl, hW.below⟩
 ·intro hc1
  replace hc1 := of_decide_eq_false hc1
  refine bB ?_
  refine l_end (n_then ?_)
  refine c_false rfl ?_
  refine c_seq (c_reg ?_)
  refine aI ?_
  refine l_val (r_eqlN (n := 0) rfl rfl rfl rfl) rfl rfl ?_
  refine l_split ?_ ?_
  ·intro hc2
   replace hc2 := of_decide_eq_true hc2
   refine bB ?_
   refine l_end (n_then ?_)
   refine c_true rfl ?_
   refine c_seq (c_reg ?_)
   refine dA hW 2 tyA29 ?_
   refine l_call hW (g_Derive k 34 0) en50 rfl rfl rfl rfl ?_
   intro W hW
   refine sA hW 0 tyA29 ?_
   intro W hW
   refine l_end (n_then (c_ret (r_block (r_then ?_))))
   refine rC hW 0 tyA29 ?_
   exact ⟨by rw [key_0 hc1 hc2]; rfl, hW.below⟩
  ·intro hc2
   replace hc2 := of_decide_eq_false hc2
   refine bB ?_
   refine l_end (n_then ?_)
   refine c_false rfl ?_
   refine c_skip (n_block (n_then (c_seq (c_reg ?_))))
   refine dA hW 2 tyA29 ?_
   refine aI ?_
   refine l_call hW (g_nodeKey k v) en67 rfl rfl rfl rfl ?_
   intro W hW
   refine aI ?_
   refine aI ?_
   refine l_call hW (g_descend (derive k 30 (BitVec.ofNat 64 v)) v x (by omega) hx2 (hb hc1 hc2)) en66 rfl rfl rfl rfl ?_
   intro W hW
   refine l_call hW (g_middle (descK (derive k 30 (BitVec.ofNat 64 v)) v x)) en111 rfl rfl rfl rfl ?_
   intro W hW
   refine sA hW 0 tyA29 ?_
   intro W hW
   refine l_end (n_then (c_ret ?_))
   refine rC hW 0 tyA29 ?_
   exact ⟨by rw [key_n hc1 hc2]; rfl, hW.below⟩

end Go.Proofs.YtoegpalacppllaaGreat

/- Headers and their items, as cells. No function of the program is in sight here. -/
namespace Go.Proofs.YtoegpalacppllaaGreat
open Go.RowKit Pl Tr Hn

/-- the cells of a header without points: its items, its check -/
abbrev hdC (s : Sl) (ck : Kw) : List Value := [.slice s.a s.n s.c, .int .u64 0, .slice none 0 0] ++ (kc (0#64, 0#64) ++ kc ck)
theorem hdC_len (s : Sl) (ck : Kw) : (hdC s ck).length = 35 := by simp [hdC, kc_len]
theorem hdC_one (s : Sl) (ck : Kw) : ∀ v ∈ hdC s ck, v.oneCell' = true := by
  intro v hv
  rcases List.mem_append.1 hv with h | h
  · simp only [List.mem_cons, List.not_mem_nil, or_false] at h
    rcases h with rfl | rfl | rfl <;> rfl
  · rcases List.mem_append.1 h with h | h
    · exact kc_one _ v h
    · exact kc_one _ v h
theorem hdC_key (s : Sl) (ck : Kw) : ((hdC s ck).drop 19).take 16 = kc ck := by
  have h : (hdC s ck).drop 19 = kc ck := by
    rw [hdC, ← List.append_assoc, List.drop_append_of_le_length (by simp [kc_len])]
    rw [List.drop_of_length_le (by simp [kc_len]), List.nil_append]
  rw [h, List.take_of_length_le (by rw [kc_len]; decide)]
/-- the cells of an item -/
def it1 (i : It) : List Value := [.int .i64 i.v, .int .i64 i.x] ++ kc i.k
theorem it1_len (i : It) : (it1 i).length = 18 := by simp [it1, kc_len]
theorem it1_one (i : It) : ∀ v ∈ it1 i, v.oneCell' = true := by
  intro v hv
  rcases List.mem_append.1 hv with h | h
  · simp only [List.mem_cons, List.not_mem_nil, or_false] at h
    rcases h with rfl | rfl <;> rfl
  · exact kc_one _ v h
def itL : List It → List Value
  | [] => []
  | i :: l => it1 i ++ itL l
theorem itL_len : ∀ l, (itL l).length = l.length * 18
  | [] => rfl
  | i :: l => by rw [itL, List.length_append, it1_len, itL_len l, List.length_cons]; omega
theorem itL_append : ∀ l m, itL (l ++ m) = itL l ++ itL m
  | [], m => rfl
  | i :: l, m => by rw [List.cons_append, itL, itL, itL_append l m, List.append_assoc]
theorem itL_get : ∀ {l : List It} {i : Nat} {t : It}, l[i]? = some t → ((itL l).drop (i * 18)).take 18 = it1 t
  | [], i, t, h => by simp at h
  | x :: l, 0, t, h => by
    simp only [List.getElem?_cons_zero, Option.some.injEq] at h
    subst h
    rw [Nat.zero_mul, List.drop_zero, itL, List.take_append_of_le_length (by rw [it1_len]; omega), List.take_of_length_le (by rw [it1_len]; omega)]
  | x :: l, i + 1, t, h => by
    rw [List.getElem?_cons_succ] at h
    have := itL_get h
    rw [itL, List.drop_append, List.drop_of_length_le (by rw [it1_len]; omega), it1_len, List.nil_append, show (i + 1) * 18 - 18 = i * 18 by omega]
    exact this
section
variable {P : Program} {ops : Array Oper} {Q : Exit → Act → World → Prop} {bs : List Value} {us : List (Nat × Value)} {ds : List Deferred} {w0 : Base} {W : World} {rest : List Oper} {o : Oper} {L : List Blk} {d : Nat} {S : List Nat} {ks : List Kd} {ms : List Mk} {V : List (List Value)} {R : Act → St → Prop} {T : List Oper → Act → St → Prop}
end
end Go.Proofs.YtoegpalacppllaaGreat

