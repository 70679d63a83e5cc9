/- Part 5 of 6: what the law of this claim leans on -/
import Derived.Test.YtoegpalacppllaaGreatPkF4
import Derived.MapKept
import Derived.Lib.AppendZerosOnto
import Derived.Lib.Overlaps
import Derived.Scope
import Derived.Control
/- Lists of subsets, by the program. -/
namespace Go.Proofs.YtoegpalacppllaaGreat
open Go.RowKit Pl
open Tr Hn
set_option maxRecDepth 10000 in
/-- headend/trace.subsets -/
theorem g_psubsets (s : Sc) (ra : Option Addr) (rn rc : Nat) (l : List (Int × Int)) (hs : schB s = true) (hq : l.length ≤ 100) : GivesX Tryz.prog 83 [.agg [.int .u8 s.k, .int .i64 s.d, .int .i64 s.g, .int .u64 s.p, .int .u64 s.q, .int .u64 s.r].toArray, .slice ra rn rc].toArray (fun w => RdB w ⟨ra, rn, rc⟩ l) (fun u Bs => ∃ (t : Sl) (ss : List Sl), u = .tuple #[t.v, .int .i64 (subsE s l)] ∧ (subsE s l = 0 → Rep Bs fun W => RdG W t ss (mems s l))) := by
 refine givesX_of Tryz.func83 rfl (bs := [.agg [.int .u8 s.k, .int .i64 s.d, .int .i64 s.g, .int .u64 s.p, .int .u64 s.q, .int .u64 s.r].toArray, .slice ra rn rc, undef, undef, undef, undef, undef, undef, undef, undef, undef, undef, undef, undef, undef, undef, undef, undef, undef, undef, undef, undef, undef, undef, undef, undef, undef, undef, undef, undef, undef, undef, undef, undef, undef]) rfl ?_
 intro w hP hW
 obtain ⟨k1, k3, d0, d6, -⟩ := schB_iff.1 hs
 have hn : rn = l.length := hP.len
 refine c_seq (c_reg ?_)
 refine xB hW ?_
 intro g1 W hW
 refine bS ?_
 refine bI ?_
 refine l_end (n_then (c_seq (c_seq (c_reg ?_))))
 refine aS ?_
 refine l_val (r_lenSlice Tryz.underlying33 rfl rfl) rfl rfl ?_
 refine l_val (r_gtrN (n := 64) rfl rfl rfl rfl) rfl rfl ?_
 refine l_split ?_ ?_
 ·intro hc1
  replace hc1 := of_decide_eq_true hc1
  refine l_end (n_then ?_)
  refine c_true rfl ?_
  refine c_seq (c_reg ?_)
  refine bS ?_
  refine bI ?_
  refine l_end (n_then (c_ret (r_then ?_)))
  refine ret_tmp2 rfl rfl rfl ?_
  exact ⟨_, [], rfl, ⟨Sl.no, [], by rw [subsE_many (by omega)]; rfl, fun h => absurd h (by rw [subsE_many (by omega)]; decide)⟩, hW.sub (List.nil_sublist _)⟩
 ·intro hc1
  replace hc1 := of_decide_eq_false hc1
  refine l_end (n_then ?_)
  refine c_false rfl ?_
  refine c_skip (n_then (c_seq (c_reg ?_)))
  refine bS ?_
  refine l_end (n_then (c_seq (c_seq (c_reg ?_))))
  refine aS ?_
  refine l_val (r_lenSlice Tryz.underlying33 rfl rfl) rfl rfl ?_
  refine aI ?_
  refine l_end (n_then (c_block ?_))
  refine c_loop (fun (z : Nat × Option Addr × Nat × List Blk × List Blk × List Sl) (j : Nat → Value) => [.agg [.int .u8 s.k, .int .i64 s.d, .int .i64 s.g, .int .u64 s.p, .int .u64 s.q, .int .u64 s.r].toArray, .slice ra rn rc, .pointer (some ⟨g1, 0, none⟩), j 3, j 4, j 5, .slice z.2.1 z.1 z.2.2.1, j 7, j 8, j 9, j 10, .slice ra rn rc, j 12, .bool false, .slice ra rn rc, .int .i64 (rn : Int), .int .i64 (z.1 : Int), j 17, j 18, j 19, j 20, j 21, j 22, j 23, j 24, j 25, j 26, j 27, j 28, j 29, j 30, j 31, j 32, j 33, j 34]) (fun (z : Nat × Option Addr × Nat × List Blk × List Blk × List Sl) => [⟨g1, [.int .u8 s.k, .int .i64 s.d, .int .i64 s.g, .int .u64 s.p, .int .u64 s.q, .int .u64 s.r], 26⟩] ++ (z.2.2.2.1 ++ z.2.2.2.2.1)) (fun (z : Nat × Option Addr × Nat × List Blk × List Blk × List Sl) => z.1 ≤ rn ∧ (∀ k, k < z.1 → subB s (qn l k) (qm l k) = true) ∧ OwnSl 27 1 z.2.1 z.1 z.2.2.1 (z.2.2.2.2.2.map Sl.v) z.2.2.2.1 ∧ z.2.2.2.2.2.length = z.1 ∧ NewSs z.2.2.2.2.2 (mems s l) z.2.2.2.2.1) (fun (z : Nat × Option Addr × Nat × List Blk × List Blk × List Sl) => rn - z.1) (0, none, 0, [], [], []) (by kernel_rfl) (by simpa using hW) ⟨Nat.zero_le _, fun k hk => by omega, OwnSl.nil 27 1, rfl, NewSs.nil _ _⟩ ?_
  intro z j W hx hW
  obtain ⟨hi0, hib, hO, hzl, hN⟩ := hx
  refine c_seq (c_reg ?_)
  refine l_val (r_lssN rfl rfl rfl rfl) rfl rfl ?_
  refine l_split ?_ ?_
  ·intro hc2
   replace hc2 := of_decide_eq_true hc2
   obtain ⟨b0, o0, ha, hc⟩ := hP.ptr (by omega)
   simp only at ha
   subst ha
   refine l_end (n_then (c_seq ?_))
   refine c_true rfl ?_
   refine c_skip (n_then (c_seq (c_block (c_seq (c_reg ?_)))))
   refine l_val (r_indexAddrSlB (n := z.1) Tryz.underlying33 tyA64.size rfl rfl rfl (by omega)) rfl rfl ?_
   refine l_loadF2 hW tyA64 (hc z.1 (by omega)).1 (hc z.1 (by omega)).2 rfl rfl rfl rfl ?_
   refine l_alloc hW tyZ64 rfl rfl rfl ?_
   intro g2 W hW
   refine sA hW 0 tyA64 ?_
   intro W hW
   refine l_end (n_then (c_seq (c_reg ?_)))
   refine dA hW 1 tyA26 ?_
   refine dA hW 0 tyA64 ?_
   refine l_callX hW (g_Members s (qn l z.1) (qm l z.1) hs) en43 trivial rfl rfl rfl rfl ?_
   rintro _ BsM W ⟨tm, rfl, hm⟩ hW
   obtain ⟨ee, hee⟩ : ∃ ee : Int, ee = (if subB s (qn l z.1) (qm l z.1) = true then 0 else 31) := ⟨_, rfl⟩
   have he0 : subB s (qn l z.1) (qm l z.1) = true → ee = 0 := fun h => hee.trans (by rw [h]; rfl)
   have he1 : subB s (qn l z.1) (qm l z.1) = false → ee = 31 := fun h => hee.trans (by rw [h]; rfl)
   rw [← hee]
   refine l_val (r_move (v := .tuple _) rfl rfl) rfl rfl ?_
   refine l_val (r_extract (v := .slice _ _ _) rfl rfl rfl) rfl rfl ?_
   refine l_val (r_extract (v := .int _ _) rfl rfl rfl) rfl rfl ?_
   refine bS ?_
   refine bI ?_
   refine l_end (n_then (c_seq (c_seq (c_reg ?_))))
   refine aI ?_
   refine l_val (r_neq rfl rfl rfl rfl) rfl rfl ?_
   refine l_split ?_ ?_
   ·intro hc3
    replace hc3 := of_decide_eq_true hc3
    have hb : subB s (qn l z.1) (qm l z.1) = false := by
     cases hb : subB s (qn l z.1) (qm l z.1) with
     | true => exact absurd (he0 hb) hc3
     | false => rfl
    refine l_end (n_then ?_)
    refine c_true rfl ?_
    refine c_seq (c_reg ?_)
    refine aI ?_
    refine bS ?_
    refine bI ?_
    refine l_end (n_then (c_ret (r_then (r_block (r_then (r_then (r_block (r_then ?_))))))))
    refine ret_tmp2 rfl rfl rfl ?_
    exact ⟨_, [], rfl, ⟨Sl.no, [], by rw [subsE_no (i := z.1) (by omega) (by omega) hb, he1 hb]; rfl, fun h => absurd h (by rw [subsE_no (i := z.1) (by omega) (by omega) hb]; decide)⟩, hW.sub (List.nil_sublist _)⟩
   ·intro hc3
    replace hc3 := of_decide_eq_false hc3
    have hb : subB s (qn l z.1) (qm l z.1) = true := by
     cases hb : subB s (qn l z.1) (qm l z.1) with
     | false => have := he1 hb; omega
     | true => rfl
    refine l_end (n_then ?_)
    refine c_false rfl ?_
    refine c_skip (n_then (c_reg ?_))
    refine aS ?_
    refine aS ?_
    refine l_buildSliceF hW (bsl150_1_0 _ _ _) rfl rfl rfl rfl ?_
    intro gb W hW
    replace hW := (show Cl _ (_ :: (([_, _] ++ (z.2.2.2.1 ++ z.2.2.2.2.1)) ++ BsM)) _ from hW).perm permS
    refine l_appendB tyE150 (L := _ :: ([_, _] ++ (z.2.2.2.2.1 ++ BsM))) hO hW 0 (N := z.1 + 1) rfl rfl rfl rfl rfl rfl rfl rfl (by simp [Value.oneCell']) (by unfold maxLen; omega) (by omega) ?_
    intro a1 c1 Bs1 W hO1 hW
    replace hO1 := hO1.castx rfl (xs' := (z.2.2.2.2.2 ++ [tm]).map Sl.v) (by simp)
    refine bS ?_
    refine l_end (n_block (n_then (c_reg ?_)))
    refine l_val (r_addN (n := 1) rfl rfl rfl (by omega)) rfl rfl ?_
    refine aI ?_
    refine l_end (n_then ?_)
    exact loop_next (z.1 + 1, a1, c1, Bs1, z.2.2.2.2.1 ++ BsM, z.2.2.2.2.2 ++ [tm]) (by kernel_rfl) ((show Cl _ (_ :: ((z.2.2.2.2.1 ++ BsM) ++ Bs1)) _ from (hW.drop 2)).perm (List.Perm.cons _ List.perm_append_comm)) ⟨by simp only; omega, all_upto hib hb, hO1, by simp only [List.length_append, hzl]; rfl, hN.one (by rw [hzl]; exact mems_get (by omega)) (hm hb) (List.sublist_append_left _ _) (List.sublist_append_right _ _)⟩ (by simp only; omega)
  ·intro hc2
   replace hc2 := of_decide_eq_false hc2
   refine l_end (n_then (c_seq ?_))
   refine c_false rfl ?_
   refine c_exit (x_then (x_then ?_))
   refine x_hit ?_
   refine n_then (c_seq (c_reg ?_))
   refine aS ?_
   refine bS ?_
   refine bI ?_
   refine l_end (n_then (c_ret ?_))
   refine ret_tmp2 rfl rfl rfl ?_
   have hall := subsE_yes (s := s) (l := l) (by omega) fun k hk => hib k (by omega)
   exact ⟨_, _, rfl, ⟨⟨z.2.1, z.1, z.2.2.1⟩, z.2.2.2.2.2, by rw [hall]; rfl, fun _ => RdG.of hO hN (by rw [mems_len]; omega) (List.sublist_append_left _ _) (List.sublist_append_right _ _)⟩, hW.drop 1⟩

end Go.Proofs.YtoegpalacppllaaGreat

/- Which lists are open to a box, by the program. -/
namespace Go.Proofs.YtoegpalacppllaaGreat
open Go.RowKit Pl
open Tr Hn
theorem g_BSearch (aa : Option Addr) (an ac : Nat) (l : List Int) (x : Int) (hs : l.Pairwise (· ≤ ·)) (hl : l.length ≤ 4294967296) : ∃ q : Int, GivesR Tryz.prog 132 [.slice aa an ac, .int .i64 x].toArray (fun w => RdI w ⟨aa, an, ac⟩ l) (.tuple #[.int .i64 q, .bool (l.contains x)]) := by
 by_cases h0 : l.length = 0
 ·obtain rfl : l = [] := List.eq_nil_of_length_eq_zero h0
  refine ⟨0, fun w hp => ?_⟩
  obtain rfl : an = 0 := hp.len
  exact (Tryz.slices_BinarySearch_int_empty aa ac x w).mono fun e w' ⟨he, hw⟩ => ⟨he, hw ▸ Below.refl _ _⟩
 ·refine ⟨((l.countP (· < x) : Nat) : Int), fun w hp => ?_⟩
  have hn : an = l.length := hp.len
  obtain ⟨b, i, ha, hc⟩ := hp.ptr (by omega)
  simp only at ha
  subst ha
  subst hn
  have := Tryz.slices_BinarySearch_int b i l.length ac l x w (Nat.le_refl _) (by omega) hc (by rw [List.take_length]; exact hs)
  rw [List.take_length] at this
  exact this.mono fun e w' ⟨he, q, hw⟩ => ⟨he, hw ▸ below_drewN (Below.refl _ _) q⟩
set_option maxRecDepth 10000 in
/-- headend/trace.opens$1 -/
theorem g_opens1 (t : Sl) (c : List Int) (gx : Nat) (hc : c.Pairwise (· ≤ ·)) (hcl : c.length ≤ 100) (x : Int) : GivesR Tryz.prog 131 [.int .i64 x, .pointer (some ⟨gx, 0, none⟩)].toArray (fun w => w.cell? ⟨gx, 6, none⟩ = some t.v ∧ RdI w t c) (.bool (c.contains x)) := by
 refine givesR_of Tryz.func131 rfl (bs := [.int .i64 x, .pointer (some ⟨gx, 0, none⟩), undef, undef, undef, undef, undef, undef, undef, undef, undef, undef, undef, undef]) rfl ?_
 intro w hP hW
 obtain ⟨q, hbs⟩ := g_BSearch t.a t.n t.c c x hc (by omega)
 refine c_seq (c_reg ?_)
 refine bB ?_
 refine l_end (n_then (c_seq (c_reg ?_)))
 refine l_val (r_fieldAddr 6 Tryz.underlying31 rfl tyC27.size rfl rfl rfl) rfl rfl ?_
 refine l_loadF hW tyC27 (v := t.v) hP.1 rfl rfl rfl rfl ?_
 refine aI ?_
 refine l_callR hW hbs en132 (hP.2.past hW.below) rfl rfl rfl rfl ?_
 intro W hW
 refine l_val (r_move (v := .tuple _) rfl rfl) rfl rfl ?_
 refine l_val (r_extract (v := .int _ _) rfl rfl rfl) rfl rfl ?_
 refine l_val (r_extract (v := .bool _) rfl rfl rfl) rfl rfl ?_
 refine bI ?_
 refine bB ?_
 refine l_end (n_then (c_seq (c_reg ?_)))
 refine aB ?_
 refine bB ?_
 refine l_end (n_then (c_ret ?_))
 refine ret_tmp (v := .bool (c.contains x)) rfl ?_ ⟨rfl, hW.below⟩
 rfl

set_option maxRecDepth 10000 in
/-- slices.IndexFunc[[]int,int] -/
theorem g_IndexFunc (t : Sl) (c : List Int) (gx : Nat) (hc : c.Pairwise (· ≤ ·)) (hcl : c.length ≤ 100) (aa : Option Addr) (an ac : Nat) (l : List Int) (hl : l.length ≤ 4294967296) : GivesR Tryz.prog 134 [.slice aa an ac, .func (.func 131) #[] #[.pointer (some ⟨gx, 0, none⟩)]].toArray (fun w => (w.cell? ⟨gx, 6, none⟩ = some t.v ∧ RdI w t c) ∧ RdI w ⟨aa, an, ac⟩ l) (.int .i64 (findI l.length fun k => c.contains (at_ l k))) := by
 refine givesR_of Tryz.func134 rfl (bs := [.slice aa an ac, .func (.func 131) #[] #[.pointer (some ⟨gx, 0, none⟩)], undef, undef, undef, undef, undef, undef, undef, undef, undef, undef, undef, undef, undef, undef, undef, undef, undef]) rfl ?_
 intro w hP hW
 have hn : an = l.length := hP.2.len
 refine c_seq (c_reg ?_)
 refine bI ?_
 refine l_end (n_then (c_seq (c_seq (c_reg ?_))))
 refine aS ?_
 refine l_val (r_lenSlice Tryz.underlying27 rfl rfl) rfl rfl ?_
 refine aI ?_
 refine l_end (n_then (c_block ?_))
 refine c_loop (fun (i : Nat) (j : Nat → Value) => [.slice aa an ac, .func (.func 131) #[] #[.pointer (some ⟨gx, 0, none⟩)], j 2, j 3, j 4, j 5, .slice aa an ac, .int .i64 (an : Int), .int .i64 (i : Int), j 9, j 10, j 11, j 12, j 13, j 14, j 15, j 16, j 17, j 18]) (fun (i : Nat) => []) (fun (i : Nat) => i ≤ an ∧ ∀ k, k < i → c.contains (at_ l k) = false) (fun (i : Nat) => an - i) 0 (by kernel_rfl) hW ⟨by omega, all_zero⟩ ?_
 intro i j W hx hW
 obtain ⟨hi0, hib⟩ := hx
 refine c_seq (c_reg ?_)
 refine l_val (r_lssN rfl rfl rfl rfl) rfl rfl ?_
 refine l_split ?_ ?_
 ·intro hc1
  replace hc1 := of_decide_eq_true hc1
  obtain ⟨b0, o0, ha, hq⟩ := hP.2.ptr (by omega)
  simp only at ha
  subst ha
  refine l_end (n_then (c_seq ?_))
  refine c_true rfl ?_
  refine c_skip (n_then (c_seq (c_block (c_seq (c_reg ?_)))))
  refine aI ?_
  refine bI ?_
  refine l_end (n_then (c_seq (c_reg ?_)))
  refine l_val (r_move (v := .func _ _ _) rfl rfl) rfl rfl ?_
  refine aS ?_
  refine aI ?_
  refine l_val (r_indexAddrSl2 (n := i) Tryz.underlying27 tyC3.size rfl rfl rfl (by omega)) rfl rfl ?_
  refine l_loadF hW tyC3 (v := .int .i64 (at_ l (i))) (hq (i) (by omega)) rfl rfl rfl rfl ?_
  refine l_callVR hW (args := [.int .i64 (at_ l i)]) (cap := [.pointer (some ⟨gx, 0, none⟩)]) (g_opens1 t c gx hc hcl (at_ l i)) en131 ⟨cell_past hW.below hP.1.1, hP.1.2.past hW.below⟩ rfl rfl rfl rfl rfl ?_
  intro W hW
  refine l_split ?_ ?_
  ·intro hc2
   refine l_end (n_then ?_)
   refine c_true rfl ?_
   refine c_seq (c_reg ?_)
   refine aI ?_
   refine bI ?_
   refine l_end (n_then (c_ret (r_block (r_then (r_then (r_block (r_then ?_)))))))
   refine ret_tmp (v := .int .i64 (findI l.length fun k => c.contains (at_ l k))) rfl ?_ ⟨rfl, hW.below⟩
   exact congrArg (Value.int .i64) (find_yes (by omega) hc2 hib).symm
  ·intro hc2
   refine l_end (n_then ?_)
   refine c_false rfl ?_
   refine c_skip (n_block (n_then (c_reg ?_)))
   refine l_val (r_addN (n := 1) rfl rfl rfl (by omega)) rfl rfl ?_
   refine aI ?_
   refine l_end (n_then ?_)
   exact loop_next (i + 1) (by kernel_rfl) hW ⟨by omega, all_upto hib hc2⟩ (by omega)
 ·intro hc1
  replace hc1 := of_decide_eq_false hc1
  refine l_end (n_then (c_seq ?_))
  refine c_false rfl ?_
  refine c_exit (x_then (x_then ?_))
  refine x_hit ?_
  refine n_then (c_seq (c_reg ?_))
  refine bI ?_
  refine l_end (n_then (c_ret ?_))
  refine ret_tmp (v := .int .i64 (findI l.length fun k => c.contains (at_ l k))) rfl ?_ ⟨rfl, hW.below⟩
  exact congrArg (Value.int .i64) (find_no fun k hk => hib k (by omega)).symm

set_option maxRecDepth 10000 in
/-- slices.ContainsFunc[[]int,int] -/
theorem g_ContainsFunc (t : Sl) (c : List Int) (gx : Nat) (hc : c.Pairwise (· ≤ ·)) (hcl : c.length ≤ 100) (aa : Option Addr) (an ac : Nat) (l : List Int) (hl : l.length ≤ 4294967296) : GivesR Tryz.prog 90 [.slice aa an ac, .func (.func 131) #[] #[.pointer (some ⟨gx, 0, none⟩)]].toArray (fun w => (w.cell? ⟨gx, 6, none⟩ = some t.v ∧ RdI w t c) ∧ RdI w ⟨aa, an, ac⟩ l) (.bool (hasP c l)) := by
 refine givesR_of Tryz.func90 rfl (bs := [.slice aa an ac, .func (.func 131) #[] #[.pointer (some ⟨gx, 0, none⟩)], undef, undef, undef, undef, undef, undef, undef]) rfl ?_
 intro w hP hW
 refine c_seq (c_reg ?_)
 refine bB ?_
 refine l_end (n_then (c_seq (c_reg ?_)))
 refine aS ?_
 refine l_val (r_move (v := .func _ _ _) rfl rfl) rfl rfl ?_
 refine l_callR hW (g_IndexFunc t c gx hc hcl aa an ac l hl) en134 ⟨⟨cell_past hW.below hP.1.1, hP.1.2.past hW.below⟩, hP.2.past hW.below⟩ rfl rfl rfl rfl ?_
 intro W hW
 refine l_val (r_geq rfl rfl rfl rfl) rfl rfl ?_
 refine bB ?_
 refine l_end (n_then (c_ret ?_))
 refine ret_tmp (v := .bool (hasP c l)) rfl ?_ ⟨rfl, hW.below⟩
 exact congrArg Value.bool (find_any _ _)

set_option maxRecDepth 10000 in
/-- headend/trace.opens -/
theorem g_opens (b : Bo) (t : Sl) (ra : Option Addr) (rn rc : Nat) (ss : List Sl) (gs : List (List Int)) (hc : b.l.Pairwise (· ≤ ·)) (hl : b.l.length ≤ 100) (hg : gs.length ≤ 100) (hgl : ∀ m ∈ gs, m.length ≤ 4294967296) : GivesX Tryz.prog 85 [.agg (boC b t).toArray, .slice ra rn rc].toArray (fun w => RdI w t b.l ∧ RdG w ⟨ra, rn, rc⟩ ss gs) (NewSl 4 1 gs.length (tl (opl b.l gs gs.length))) := by
 refine givesX_of Tryz.func85 rfl (bs := [.agg (boC b t).toArray, .slice ra rn rc, undef, undef, undef, undef, undef, undef, undef, undef, undef, undef, undef, undef, undef, undef, undef, undef, undef, undef, undef, undef]) rfl ?_
 intro w hP hW
 have hn := hP.2.n
 have hn2 := hP.2.len
 simp only at hn
 refine c_seq (c_reg ?_)
 refine xB hW ?_
 intro g1 W hW
 refine bS ?_
 refine l_end (n_then (c_seq (c_reg ?_)))
 refine bS ?_
 refine l_end (n_then (c_seq (c_seq (c_reg ?_))))
 refine aS ?_
 refine l_val (r_lenSlice Tryz.underlying150 rfl rfl) rfl rfl ?_
 refine aI ?_
 refine l_end (n_then (c_block ?_))
 refine c_loop (fun (x : Nat × Option Addr × Nat × List Blk) (j : Nat → Value) => [.agg (boC b t).toArray, .slice ra rn rc, .pointer (some ⟨g1, 0, none⟩), j 3, j 4, .slice x.2.1 x.1 x.2.2.1, j 6, j 7, .slice ra rn rc, .int .i64 (rn : Int), .int .i64 (x.1 : Int), j 11, j 12, j 13, j 14, j 15, j 16, j 17, j 18, j 19, j 20, j 21]) (fun (x : Nat × Option Addr × Nat × List Blk) => [⟨g1, (boC b t), 31⟩] ++ x.2.2.2) (fun (x : Nat × Option Addr × Nat × List Blk) => x.1 ≤ rn ∧ OwnSl 4 1 x.2.1 x.1 x.2.2.1 (tl (opl b.l gs x.1)) x.2.2.2) (fun (x : Nat × Option Addr × Nat × List Blk) => rn - x.1) (0, none, 0, []) (by kernel_rfl) (by simpa using hW) ⟨Nat.zero_le _, OwnSl.nil 4 1⟩ ?_
 intro x j W hx hW
 obtain ⟨hx, hO⟩ := hx
 refine c_seq (c_reg ?_)
 refine l_val (r_lssN rfl rfl rfl rfl) rfl rfl ?_
 refine l_split ?_ ?_
 ·intro hc1
  replace hc1 := of_decide_eq_true hc1
  obtain ⟨b0, o0, rfl⟩ := hP.2.ptr (by omega)
  obtain ⟨sm, m, hs1, hm1, hcell, hrd⟩ := hP.2.get (i := x.1) (by omega)
  have hgd : gs.getD x.1 [] = m := by rw [List.getD_eq_getElem?_getD, hm1]; rfl
  refine l_end (n_then (c_seq ?_))
  refine c_true rfl ?_
  refine c_skip (n_then (c_seq (c_block (c_seq (c_reg ?_)))))
  refine l_val (r_indexAddrSl2 (n := x.1) Tryz.underlying150 tyC27.size rfl rfl rfl (by omega)) rfl rfl ?_
  refine l_loadF hW tyC27 (v := sm.v) hcell rfl rfl rfl rfl ?_
  refine bS ?_
  refine l_end (n_then (c_reg ?_))
  refine aS ?_
  refine aS ?_
  refine l_val (r_closure (vs := [.pointer (some ⟨g1, 0, none⟩)]) rfl rfl) rfl rfl ?_
  refine l_callR hW (g_ContainsFunc t b.l g1 hc hl sm.a sm.n sm.c m (hgl m (List.mem_of_getElem? hm1))) en90 ⟨⟨(cell_at (hW.at 0 rfl) 6).trans rfl, hP.1.past hW.below⟩, hrd.past hW.below⟩ rfl rfl rfl rfl ?_
  intro W hW
  refine l_buildSliceF hW (bsl155_1_0 _) rfl rfl rfl rfl ?_
  intro gb W hW
  refine l_appendB tyE155 (L := [_, _]) hO hW 0 (N := x.1 + 1) rfl rfl rfl rfl rfl rfl rfl rfl (by simp [Value.oneCell']) (by unfold maxLen; omega) (by omega) ?_
  intro a1 c1 Bs1 W hO1 hW
  replace hO1 := hO1.castx rfl (xs' := tl (opl b.l gs (x.1 + 1))) (by rw [opl_succ, tl_append, hgd]; rfl)
  refine bS ?_
  refine l_end (n_block (n_then (c_reg ?_)))
  refine l_val (r_addN (n := 1) rfl rfl rfl (by omega)) rfl rfl ?_
  refine aI ?_
  refine l_end (n_then ?_)
  exact loop_next (x.1 + 1, a1, c1, Bs1) (by kernel_rfl) (hW.drop 1) ⟨by simp only; omega, hO1⟩ (by simp only; omega)
 ·intro hc1
  replace hc1 := of_decide_eq_false hc1
  refine l_end (n_then (c_seq ?_))
  refine c_false rfl ?_
  refine c_exit (x_then (x_then ?_))
  refine x_hit ?_
  refine n_then (c_seq (c_reg ?_))
  refine aS ?_
  refine bS ?_
  refine l_end (n_then (c_ret ?_))
  refine ret_tmp (v := .slice _ _ _) rfl rfl ?_
  have e : x.1 = gs.length := by omega
  exact ⟨_, _, rfl, ⟨_, _, by rw [e], by rw [← e]; exact hO⟩, hW.sub (List.sublist_append_right _ _)⟩

end Go.Proofs.YtoegpalacppllaaGreat

/- A map of the call's own, with small numbers for keys. No function of the program is in sight here. -/
namespace Go.Proofs.YtoegpalacppllaaGreat
open Go.RowKit Go.MapKept

section
variable {P : Program} {ops : Array Oper} {Q : Exit → Act → World → Prop} {bs : List Value} {us : List (Nat × Value)} {ds : List Deferred} {b : Base} {W : World} {rest : List Oper} {o : Oper} {L : List Blk} {d : Nat} {v : Value} {r : Option (Option Nat)} {n : Nat}
theorem l_makeMap (hW : Cl b L W) {t : TypeId} (hg : o.guard = none) (ho : o.op = .makeMap t none) (hd : o.dst = some d)
    (h : ∀ m W', Cl ⟨b.w, W'⟩ L W' → W'.heap[m]? = some (.map #[] 0) → b.w.heap.size ≤ m → LW r n P ops Q rest (fr bs ((d, .map (some m)) :: us) ds) W') : LW r n P ops Q (o :: rest) (fr bs us ds) W := by
  have hrun : (execOp (ev bs us) o).run P W = .ok (.value (.map (some W.heap.size))) (W.alloc (.map #[] 0)) := by
    unfold execOp
    simp [ho, Instr.makeMap]
  exact l_run hg hrun hd (h _ _ (hW.rebase ((Below.refl _ W).alloc (Nat.le_refl _) _)) (World.alloc_heap_new W _) hW.below.size)
theorem l_insert (hW : Cl b L W) {m k : Nat} {es : Array MapEntry} {clock : Nat} {t kt et : TypeId} {x y z : Operand} (hm : W.heap[m]? = some (.map es clock)) (hb : b.w.heap.size ≤ m) (ht : P.underlying t = some (.map kt et)) (hk : P.underlying kt = some (.int .u8)) (hg : o.guard = none) (ho : o.op = .insert t x y z)
    (hx : ev bs us x = .map (some m)) (hy : ev bs us y = .int .u8 (k : Int)) (hz : ev bs us z = v) (hd : o.dst = none) (hf : Instr.findNow (.int .u8) (.int .u8 (k : Int)) es.toList 0 = some none)
    (h : ∀ W', Cl ⟨b.w, W'⟩ L W' → W'.heap[m]? = some (.map (es.push { key := .int .u8 (k : Int), val := v, born := clock }) (clock + 1)) → LW r n P ops Q rest (fr bs us ds) W') : LW r n P ops Q (o :: rest) (fr bs us ds) W := by
  have hrun : (execOp (ev bs us) o).run P W = .ok .skip (W.putObj m (.map (es.push { key := .int .u8 (k : Int), val := v, born := clock }) (clock + 1))) := by
    unfold execOp
    simp only [ho, hx, hy, hz, Instr.mapUpdate, Sem.run_bind, run_underlying ht, Result.andThen_ok, Go.MapKept.run_getObj_map hm, Go.MapKept.run_checkKey hk (show IsKey (.int .u8) (.int .u8 (k : Int)) from rfl) false 9999, Go.MapKept.run_findKey hk hf, Go.MapKept.run_setObj_map _ hm, Sem.run_pure]
    rfl
  refine LW.skip (wanted_none hg) (by rw [eval_ev]; exact hrun) ?_
  rw [hd, put_none]
  exact h _ (hW.put _ hm rfl hb) (World.putObj_heap_same (Array.getElem?_eq_some_iff.1 hm).1)
theorem r_nilCheck {x : Operand} {g i : Nat} (ho : o.op = .nilCheck x) (hx : ev bs us x = .pointer (some ⟨g, i, none⟩)) : Runs P bs us o (.pointer (some ⟨g, i, none⟩)) := fun w => by
  unfold execOp
  simp [ho, hx]
theorem r_lookup {m k i : Nat} {es : Array MapEntry} {clock : Nat} {t kt et : TypeId} {x y : Operand} (hm : W.heap[m]? = some (.map es clock)) (ht : P.underlying t = some (.map kt et)) (hk : P.underlying kt = some (.int .u8)) (ho : o.op = .lookup t x y false)
    (hx : ev bs us x = .map (some m)) (hy : ev bs us y = .int .u8 (k : Int)) (hf : Instr.findNow (.int .u8) (.int .u8 (k : Int)) es.toList 0 = some (some (i, v))) : (execOp (ev bs us) o).run P W = .ok (.value v) W := by
  unfold execOp
  simp only [ho, hx, hy, Instr.lookup, Sem.run_bind, run_underlying ht, Result.andThen_ok, Go.MapKept.run_getObj_map hm, Sem.run_pure, Go.MapKept.run_checkKey hk (show IsKey (.int .u8) (.int .u8 (k : Int)) from rfl) es.isEmpty 9999, Go.MapKept.run_findKey hk hf]
  rfl
end
end Go.Proofs.YtoegpalacppllaaGreat

/- How a box plays, by the program. -/
namespace Go.Proofs.YtoegpalacppllaaGreat
open Go.RowKit Pl
open Tr Hn
set_option maxRecDepth 10000 in
/-- headend/trace.plays$1 -/
theorem g_plays1 (gv : Nat) (fi : Bool) : GivesR Tryz.prog 165 [.pointer (some ⟨gv, 0, none⟩)].toArray (fun w => w.cell? ⟨gv, 2, none⟩ = some (.bool fi)) (.bool fi) := by
 refine givesR_of Tryz.func165 rfl (bs := [.pointer (some ⟨gv, 0, none⟩), undef, undef, undef]) rfl ?_
 intro w hP hW
 refine c_seq (c_reg ?_)
 refine bB ?_
 refine l_end (n_then (c_seq (c_reg ?_)))
 refine l_val (r_fieldAddr 2 Tryz.underlying206 rfl tyC4.size rfl rfl rfl) rfl rfl ?_
 refine l_loadF hW tyC4 (v := .bool fi) hP rfl rfl rfl rfl ?_
 refine bB ?_
 refine l_end (n_then (c_ret ?_))
 refine ret_tmp (v := .bool fi) rfl ?_ ⟨rfl, hW.below⟩
 rfl

set_option maxRecDepth 10000 in
/-- headend/trace.plays$2 -/
theorem g_plays2  : Gives Tryz.prog 166 [].toArray (.bool false) := by
 refine gives_of Tryz.func166 rfl (bs := [undef]) rfl ?_
 intro w hW
 refine c_seq (c_reg ?_)
 refine bB ?_
 refine l_end (n_then (c_seq (c_reg ?_)))
 refine bB ?_
 refine l_end (n_then (c_ret ?_))
 refine ret_tmp (v := .bool false) rfl ?_ ⟨rfl, hW.below⟩
 rfl

set_option maxRecDepth 10000 in
/-- headend/trace.plays$3 -/
theorem g_plays3  : Gives Tryz.prog 167 [].toArray (.bool true) := by
 refine gives_of Tryz.func167 rfl (bs := [undef]) rfl ?_
 intro w hW
 refine c_seq (c_reg ?_)
 refine bB ?_
 refine l_end (n_then (c_seq (c_reg ?_)))
 refine bB ?_
 refine l_end (n_then (c_ret ?_))
 refine ret_tmp (v := .bool true) rfl ?_ ⟨rfl, hW.below⟩
 rfl

set_option maxRecDepth 10000 in
/-- headend/trace.plays$4 -/
theorem g_plays4 (b : Bo) (r wr gx gv : Nat) (h1 : r ≤ 100) (h2 : wr ≤ 100) : GivesR Tryz.prog 168 [.pointer (some ⟨gx, 0, none⟩), .pointer (some ⟨gv, 0, none⟩)].toArray (fun w => w.cell? ⟨gv, 0, none⟩ = some (.int .i64 (r : Int)) ∧ w.cell? ⟨gv, 1, none⟩ = some (.int .i64 (wr : Int)) ∧ ∀ j v, (kc b.k)[j]? = some v → w.cell? ⟨gx, 10 + j, none⟩ = some v) (.bool (oddB b r wr)) := by
 refine givesR_of Tryz.func168 rfl (bs := [.pointer (some ⟨gx, 0, none⟩), .pointer (some ⟨gv, 0, none⟩), undef, undef, undef, undef, undef, undef, undef, undef, undef, undef, undef, undef, undef]) rfl ?_
 intro w hP hW
 refine c_seq (c_reg ?_)
 refine bB ?_
 refine l_end (n_then (c_seq (c_reg ?_)))
 refine l_val (r_fieldAddr 10 Tryz.underlying31 rfl tyA29.size rfl rfl rfl) rfl rfl ?_
 refine l_loadFs hW tyA29 hP.2.2 (kc_len _) rfl rfl rfl rfl ?_
 refine l_val (r_fieldAddr 1 Tryz.underlying206 rfl tyC3.size rfl rfl rfl) rfl rfl ?_
 refine l_loadF hW tyC3 (v := .int .i64 (wr : Int)) hP.2.1 rfl rfl rfl rfl ?_
 refine l_val (r_mulN (m := 64) rfl rfl rfl (by omega)) rfl rfl ?_
 refine l_val (r_addN (m := 4294967296) rfl rfl rfl (by omega)) rfl rfl ?_
 refine l_val (r_fieldAddr 0 Tryz.underlying206 rfl tyC3.size rfl rfl rfl) rfl rfl ?_
 refine l_loadF hW tyC3 (v := .int .i64 (r : Int)) hP.1 rfl rfl rfl rfl ?_
 refine l_val (r_addN rfl rfl rfl (by omega)) rfl rfl ?_
 refine l_val (r_conv_i64_u64 Tryz.underlying3 Tryz.underlying22 rfl rfl) rfl rfl ?_
 refine l_call hW (g_Number b.k (BitVec.ofNat 64 (4294967296 + 64 * wr + r)) 2#64) en129 rfl rfl rfl rfl ?_
 intro W hW
 refine l_val (r_eql_u64 (y := 1#64) rfl rfl rfl rfl) rfl rfl ?_
 refine bB ?_
 refine l_end (n_then (c_ret ?_))
 refine ret_tmp (v := .bool (oddB b r wr)) rfl ?_ ⟨rfl, hW.below⟩
 rfl

theorem boC_kc (b : Bo) (t : Sl) {j : Nat} {v : Value} (h : (kc b.k)[j]? = some v) : (boC b t)[10 + j]? = some v := by
 have hj : j < 16 := by have := (List.getElem?_eq_some_iff.1 h).1; rw [kc_len] at this; exact this
 show ([_, _, _, _, _, _, _, _, _, _] ++ (kc b.k ++ [_, _]))[10 + j]? = _
 rw [List.getElem?_append_right (by simp), List.getElem?_append_left (by rw [kc_len]; simp; omega)]
 simpa using h
set_option maxRecDepth 10000 in
/-- headend/trace.plays -/
theorem g_plays_m1 (b : Bo) (t : Sl) (r wr : Nat) (fi : Bool) (hm : b.m = 1) : Gives Tryz.prog 130 [.agg (boC b t).toArray, .agg [.int .i64 (r : Int), .int .i64 (wr : Int), .bool fi].toArray].toArray (.bool (playB b r wr fi)) := by
 refine gives_of Tryz.func130 rfl (bs := [.agg (boC b t).toArray, .agg [.int .i64 (r : Int), .int .i64 (wr : Int), .bool fi].toArray, undef, undef, undef, undef, undef, undef, undef, undef, undef, undef, undef, undef, undef]) rfl ?_
 intro w hW
 refine c_seq (c_reg ?_)
 refine xB hW ?_
 intro g1 W hW
 refine xB hW ?_
 intro g2 W hW
 refine bB ?_
 refine l_end (n_then (c_seq (c_reg ?_)))
 refine l_makeMap hW rfl rfl rfl ?_
 intro gm W hW hM hbm
 refine l_val (r_closure (vs := [.pointer (some ⟨g2, 0, none⟩)]) rfl rfl) rfl rfl ?_
 refine l_insert (k := 1) hW hM hbm Tryz.underlying241 Tryz.underlying5 rfl rfl rfl rfl rfl rfl (by first | rfl | (simp [Go.Instr.findNow, Go.Instr.sameNow]; done)) ?_
 intro W hW hM
 refine l_insert (k := 2) hW hM hbm Tryz.underlying241 Tryz.underlying5 rfl rfl rfl rfl rfl rfl (by first | rfl | (simp [Go.Instr.findNow, Go.Instr.sameNow]; done)) ?_
 intro W hW hM
 refine l_insert (k := 3) hW hM hbm Tryz.underlying241 Tryz.underlying5 rfl rfl rfl rfl rfl rfl (by first | rfl | (simp [Go.Instr.findNow, Go.Instr.sameNow]; done)) ?_
 intro W hW hM
 refine l_val (r_closure (vs := [.pointer (some ⟨g1, 0, none⟩), .pointer (some ⟨g2, 0, none⟩)]) rfl rfl) rfl rfl ?_
 refine l_insert (k := 4) hW hM hbm Tryz.underlying241 Tryz.underlying5 rfl rfl rfl rfl rfl rfl (by first | rfl | (simp [Go.Instr.findNow, Go.Instr.sameNow]; done)) ?_
 intro W hW hM
 refine l_val (r_move (v := .map _) rfl rfl) rfl rfl ?_
 refine l_val (r_assign (v := .map _) rfl rfl) rfl rfl ?_
 refine l_end (n_then (c_seq (c_reg ?_)))
 refine l_val (r_move (v := .map _) rfl rfl) rfl rfl ?_
 refine l_val (r_fieldAddr 7 Tryz.underlying31 rfl tyC5.size rfl rfl rfl) rfl rfl ?_
 refine dC hW 1 tyC5 ?_
 refine l_run rfl (r_lookup (v := .func (.func 165) #[] #[.pointer (some ⟨g2, 0, none⟩)]) (k := 1) (i := 0) hM Tryz.underlying241 Tryz.underlying5 rfl rfl (congrArg (Value.int .u8) hm) (by first | rfl | (simp [Go.Instr.findNow, Go.Instr.sameNow]; done))) rfl ?_
 refine l_callVR hW (args := []) (cap := [.pointer (some ⟨g2, 0, none⟩)]) (g_plays1 g2 fi) en165 ((cell_at (hW.at 0 rfl) 2).trans rfl) rfl rfl rfl rfl rfl ?_
 intro W hW
 refine bB ?_
 refine l_end (n_then (c_ret ?_))
 refine ret_tmp (v := .bool (playB b r wr fi)) rfl ?_ ⟨rfl, hW.below⟩
 exact congrArg Value.bool (play_1 hm).symm

set_option maxRecDepth 10000 in
/-- headend/trace.plays -/
theorem g_plays_m2 (b : Bo) (t : Sl) (r wr : Nat) (fi : Bool) (hm : b.m = 2) : Gives Tryz.prog 130 [.agg (boC b t).toArray, .agg [.int .i64 (r : Int), .int .i64 (wr : Int), .bool fi].toArray].toArray (.bool (playB b r wr fi)) := by
 refine gives_of Tryz.func130 rfl (bs := [.agg (boC b t).toArray, .agg [.int .i64 (r : Int), .int .i64 (wr : Int), .bool fi].toArray, undef, undef, undef, undef, undef, undef, undef, undef, undef, undef, undef, undef, undef]) rfl ?_
 intro w hW
 refine c_seq (c_reg ?_)
 refine xB hW ?_
 intro g1 W hW
 refine xB hW ?_
 intro g2 W hW
 refine bB ?_
 refine l_end (n_then (c_seq (c_reg ?_)))
 refine l_makeMap hW rfl rfl rfl ?_
 intro gm W hW hM hbm
 refine l_val (r_closure (vs := [.pointer (some ⟨g2, 0, none⟩)]) rfl rfl) rfl rfl ?_
 refine l_insert (k := 1) hW hM hbm Tryz.underlying241 Tryz.underlying5 rfl rfl rfl rfl rfl rfl (by first | rfl | (simp [Go.Instr.findNow, Go.Instr.sameNow]; done)) ?_
 intro W hW hM
 refine l_insert (k := 2) hW hM hbm Tryz.underlying241 Tryz.underlying5 rfl rfl rfl rfl rfl rfl (by first | rfl | (simp [Go.Instr.findNow, Go.Instr.sameNow]; done)) ?_
 intro W hW hM
 refine l_insert (k := 3) hW hM hbm Tryz.underlying241 Tryz.underlying5 rfl rfl rfl rfl rfl rfl (by first | rfl | (simp [Go.Instr.findNow, Go.Instr.sameNow]; done)) ?_
 intro W hW hM
 refine l_val (r_closure (vs := [.pointer (some ⟨g1, 0, none⟩), .pointer (some ⟨g2, 0, none⟩)]) rfl rfl) rfl rfl ?_
 refine l_insert (k := 4) hW hM hbm Tryz.underlying241 Tryz.underlying5 rfl rfl rfl rfl rfl rfl (by first | rfl | (simp [Go.Instr.findNow, Go.Instr.sameNow]; done)) ?_
 intro W hW hM
 refine l_val (r_move (v := .map _) rfl rfl) rfl rfl ?_
 refine l_val (r_assign (v := .map _) rfl rfl) rfl rfl ?_
 refine l_end (n_then (c_seq (c_reg ?_)))
 refine l_val (r_move (v := .map _) rfl rfl) rfl rfl ?_
 refine l_val (r_fieldAddr 7 Tryz.underlying31 rfl tyC5.size rfl rfl rfl) rfl rfl ?_
 refine dC hW 1 tyC5 ?_
 refine l_run rfl (r_lookup (v := .func (.func 166) #[] #[]) (k := 2) (i := 1) hM Tryz.underlying241 Tryz.underlying5 rfl rfl (congrArg (Value.int .u8) hm) (by first | rfl | (simp [Go.Instr.findNow, Go.Instr.sameNow]; done))) rfl ?_
 refine l_callV hW (args := []) (cap := []) g_plays2 en166 rfl rfl rfl rfl rfl ?_
 intro W hW
 refine bB ?_
 refine l_end (n_then (c_ret ?_))
 refine ret_tmp (v := .bool (playB b r wr fi)) rfl ?_ ⟨rfl, hW.below⟩
 exact congrArg Value.bool (play_2 (by omega) (by omega) (by omega)).symm

set_option maxRecDepth 10000 in
/-- headend/trace.plays -/
theorem g_plays_m3 (b : Bo) (t : Sl) (r wr : Nat) (fi : Bool) (hm : b.m = 3) : Gives Tryz.prog 130 [.agg (boC b t).toArray, .agg [.int .i64 (r : Int), .int .i64 (wr : Int), .bool fi].toArray].toArray (.bool (playB b r wr fi)) := by
 refine gives_of Tryz.func130 rfl (bs := [.agg (boC b t).toArray, .agg [.int .i64 (r : Int), .int .i64 (wr : Int), .bool fi].toArray, undef, undef, undef, undef, undef, undef, undef, undef, undef, undef, undef, undef, undef]) rfl ?_
 intro w hW
 refine c_seq (c_reg ?_)
 refine xB hW ?_
 intro g1 W hW
 refine xB hW ?_
 intro g2 W hW
 refine bB ?_
 refine l_end (n_then (c_seq (c_reg ?_)))
 refine l_makeMap hW rfl rfl rfl ?_
 intro gm W hW hM hbm
 refine l_val (r_closure (vs := [.pointer (some ⟨g2, 0, none⟩)]) rfl rfl) rfl rfl ?_
 refine l_insert (k := 1) hW hM hbm Tryz.underlying241 Tryz.underlying5 rfl rfl rfl rfl rfl rfl (by first | rfl | (simp [Go.Instr.findNow, Go.Instr.sameNow]; done)) ?_
 intro W hW hM
 refine l_insert (k := 2) hW hM hbm Tryz.underlying241 Tryz.underlying5 rfl rfl rfl rfl rfl rfl (by first | rfl | (simp [Go.Instr.findNow, Go.Instr.sameNow]; done)) ?_
 intro W hW hM
 refine l_insert (k := 3) hW hM hbm Tryz.underlying241 Tryz.underlying5 rfl rfl rfl rfl rfl rfl (by first | rfl | (simp [Go.Instr.findNow, Go.Instr.sameNow]; done)) ?_
 intro W hW hM
 refine l_val (r_closure (vs := [.pointer (some ⟨g1, 0, none⟩), .pointer (some ⟨g2, 0, none⟩)]) rfl rfl) rfl rfl ?_
 refine l_insert (k := 4) hW hM hbm Tryz.underlying241 Tryz.underlying5 rfl rfl rfl rfl rfl rfl (by first | rfl | (simp [Go.Instr.findNow, Go.Instr.sameNow]; done)) ?_
 intro W hW hM
 refine l_val (r_move (v := .map _) rfl rfl) rfl rfl ?_
 refine l_val (r_assign (v := .map _) rfl rfl) rfl rfl ?_
 refine l_end (n_then (c_seq (c_reg ?_)))
 refine l_val (r_move (v := .map _) rfl rfl) rfl rfl ?_
 refine l_val (r_fieldAddr 7 Tryz.underlying31 rfl tyC5.size rfl rfl rfl) rfl rfl ?_
 refine dC hW 1 tyC5 ?_
 refine l_run rfl (r_lookup (v := .func (.func 167) #[] #[]) (k := 3) (i := 2) hM Tryz.underlying241 Tryz.underlying5 rfl rfl (congrArg (Value.int .u8) hm) (by first | rfl | (simp [Go.Instr.findNow, Go.Instr.sameNow]; done))) rfl ?_
 refine l_callV hW (args := []) (cap := []) g_plays3 en167 rfl rfl rfl rfl rfl ?_
 intro W hW
 refine bB ?_
 refine l_end (n_then (c_ret ?_))
 refine ret_tmp (v := .bool (playB b r wr fi)) rfl ?_ ⟨rfl, hW.below⟩
 exact congrArg Value.bool (play_3 hm).symm

set_option maxRecDepth 10000 in
/-- headend/trace.plays -/
theorem g_plays_m4 (b : Bo) (t : Sl) (r wr : Nat) (fi : Bool) (hm : b.m = 4) (h1 : r ≤ 100) (h2 : wr ≤ 100) : Gives Tryz.prog 130 [.agg (boC b t).toArray, .agg [.int .i64 (r : Int), .int .i64 (wr : Int), .bool fi].toArray].toArray (.bool (playB b r wr fi)) := by
 refine gives_of Tryz.func130 rfl (bs := [.agg (boC b t).toArray, .agg [.int .i64 (r : Int), .int .i64 (wr : Int), .bool fi].toArray, undef, undef, undef, undef, undef, undef, undef, undef, undef, undef, undef, undef, undef]) rfl ?_
 intro w hW
 refine c_seq (c_reg ?_)
 refine xB hW ?_
 intro g1 W hW
 refine xB hW ?_
 intro g2 W hW
 refine bB ?_
 refine l_end (n_then (c_seq (c_reg ?_)))
 refine l_makeMap hW rfl rfl rfl ?_
 intro gm W hW hM hbm
 refine l_val (r_closure (vs := [.pointer (some ⟨g2, 0, none⟩)]) rfl rfl) rfl rfl ?_
 refine l_insert (k := 1) hW hM hbm Tryz.underlying241 Tryz.underlying5 rfl rfl rfl rfl rfl rfl (by first | rfl | (simp [Go.Instr.findNow, Go.Instr.sameNow]; done)) ?_
 intro W hW hM
 refine l_insert (k := 2) hW hM hbm Tryz.underlying241 Tryz.underlying5 rfl rfl rfl rfl rfl rfl (by first | rfl | (simp [Go.Instr.findNow, Go.Instr.sameNow]; done)) ?_
 intro W hW hM
 refine l_insert (k := 3) hW hM hbm Tryz.underlying241 Tryz.underlying5 rfl rfl rfl rfl rfl rfl (by first | rfl | (simp [Go.Instr.findNow, Go.Instr.sameNow]; done)) ?_
 intro W hW hM
 refine l_val (r_closure (vs := [.pointer (some ⟨g1, 0, none⟩), .pointer (some ⟨g2, 0, none⟩)]) rfl rfl) rfl rfl ?_
 refine l_insert (k := 4) hW hM hbm Tryz.underlying241 Tryz.underlying5 rfl rfl rfl rfl rfl rfl (by first | rfl | (simp [Go.Instr.findNow, Go.Instr.sameNow]; done)) ?_
 intro W hW hM
 refine l_val (r_move (v := .map _) rfl rfl) rfl rfl ?_
 refine l_val (r_assign (v := .map _) rfl rfl) rfl rfl ?_
 refine l_end (n_then (c_seq (c_reg ?_)))
 refine l_val (r_move (v := .map _) rfl rfl) rfl rfl ?_
 refine l_val (r_fieldAddr 7 Tryz.underlying31 rfl tyC5.size rfl rfl rfl) rfl rfl ?_
 refine dC hW 1 tyC5 ?_
 refine l_run rfl (r_lookup (v := .func (.func 168) #[] #[.pointer (some ⟨g1, 0, none⟩), .pointer (some ⟨g2, 0, none⟩)]) (k := 4) (i := 3) hM Tryz.underlying241 Tryz.underlying5 rfl rfl (congrArg (Value.int .u8) hm) (by first | rfl | (simp [Go.Instr.findNow, Go.Instr.sameNow]; done))) rfl ?_
 refine l_callVR hW (args := []) (cap := [.pointer (some ⟨g1, 0, none⟩), .pointer (some ⟨g2, 0, none⟩)]) (g_plays4 b r wr g1 g2 h1 h2) en168 ⟨(cell_at (hW.at 0 rfl) 0).trans rfl, (cell_at (hW.at 0 rfl) 1).trans rfl, fun j v hj => (cell_at (hW.at 1 rfl) (10 + j)).trans (boC_kc b t hj)⟩ rfl rfl rfl rfl rfl ?_
 intro W hW
 refine bB ?_
 refine l_end (n_then (c_ret ?_))
 refine ret_tmp (v := .bool (playB b r wr fi)) rfl ?_ ⟨rfl, hW.below⟩
 exact congrArg Value.bool (play_4 hm).symm

/-- how a box plays -/
theorem g_plays (b : Bo) (t : Sl) (r wr : Nat) (fi : Bool) (h0 : 1 ≤ b.m) (h4 : b.m ≤ 4) (h1 : r ≤ 100) (h2 : wr ≤ 100) : Gives Tryz.prog 130 [.agg (boC b t).toArray, .agg [.int .i64 (r : Int), .int .i64 (wr : Int), .bool fi].toArray].toArray (.bool (playB b r wr fi)) := by
 have : b.m = 1 ∨ b.m = 2 ∨ b.m = 3 ∨ b.m = 4 := by omega
 rcases this with h | h | h | h
 ·exact g_plays_m1 b t r wr fi h
 ·exact g_plays_m2 b t r wr fi h
 ·exact g_plays_m3 b t r wr fi h
 ·exact g_plays_m4 b t r wr fi h h1 h2
end Go.Proofs.YtoegpalacppllaaGreat

/- A query, by the program: the box. -/
namespace Go.Proofs.YtoegpalacppllaaGreat
open Go.RowKit Pl
open Tr Hn
theorem play_congr {b b2 : Bo} {r w : Nat} {fi : Bool} (em : b2.m = b.m) (ek : b2.k = b.k) : playB b2 r w fi = playB b r w fi := by unfold playB oddB; rw [em, ek]
theorem boC_setAR (b : Bo) (t : Sl) (z : Int) (R : List Value) : (boC b t ++ R).set 26 (.int .i64 z) = boC { b with a := z } t ++ R := rfl
theorem boC_setXR (b : Bo) (t : Sl) (z : Int) (R : List Value) : (boC b t ++ R).set 27 (.int .i64 z) = boC { b with x := z } t ++ R := rfl
theorem boC_keyR (b : Bo) (t : Sl) (R : List Value) : ((boC b t ++ R).drop 10).take 16 = kc b.k := by
 rw [List.drop_append_of_le_length (by rw [boC_len]; decide), List.take_append_of_le_length (by rw [List.length_drop, boC_len]; decide)]
 exact boC_key b t
theorem boC_boxR (b : Bo) (t : Sl) (R : List Value) : ((boC b t ++ R).drop 0).take 28 = boC b t := by
 rw [List.drop_zero]
 exact List.take_left' (boC_len b t)
set_option maxRecDepth 10000 in
set_option maxHeartbeats 4000000 in
/-- headend/trace.ask -/
theorem g_askG (R : List Value) (ty : TypeId) (q : Bo) (t : Sl) (gx : Nat) (oa : Option Addr) (on oc : Nat) (o : List Bool) (f : Int) (n0 : 0 ≤ q.n) (n8 : q.n ≤ 8) (a0 : 0 ≤ q.a) (a1 : q.a ≤ 100000) (x1 : q.x ≤ q.a) (x0 : 0 ≤ q.x) (m1 : 1 ≤ q.m) (m4 : q.m ≤ 4) (ho : o.length ≤ 100) : GivesS Tryz.prog 84 [.pointer (some ⟨gx, 0, none⟩), .slice oa on oc, .int .i64 f].toArray (fun b0 L => ∀ W, Cl b0 L W → RdT W ⟨oa, on, oc⟩ o) [⟨gx, (boC q t ++ R), ty⟩] (fun v B => v = .bool (plays q o f) ∧ B = [⟨gx, boC (askd q o f) t ++ R, ty⟩]) := by
 refine givesS_of Tryz.func84 rfl (bs := [.pointer (some ⟨gx, 0, none⟩), .slice oa on oc, .int .i64 f, undef, undef, undef, undef, undef, undef, undef, undef, undef, undef, undef, undef, undef, undef, undef, undef, undef, undef, undef, undef, undef, undef, undef, undef, undef, undef, undef, undef, undef, undef, undef, undef, undef, undef, undef, undef, undef, undef, undef, undef, undef, undef, undef, undef, undef, undef, undef, undef, undef, undef, undef, undef, undef, undef, undef, undef, undef, undef, undef, undef, undef, undef, undef, undef, undef, undef, undef, undef, undef, undef, undef, undef, undef, undef, undef, undef, undef, undef, undef, undef, undef, undef, undef, undef, undef, undef, undef, undef, undef, undef, undef, undef, undef, undef, undef, undef, undef, undef, undef, undef, undef, undef, undef, undef, undef, undef, undef, undef, undef, undef, undef, undef, undef, undef, undef, undef, undef, undef, undef, undef, undef, undef, undef, undef, undef, undef, undef]) rfl ?_
 intro b L w hP hW
 have hn : on = o.length := (hP w (hW.sub (List.sublist_append_right _ _))).len
 have ha : q.a = (q.a.toNat : Int) := by omega
 have hb : q.n + 1 = ((q.n.toNat + 1 : Nat) : Int) := by omega
 refine c_seq (c_reg ?_)
 refine bB ?_
 refine l_end (n_then (c_seq (c_reg ?_)))
 refine l_alloc hW tyZ206 rfl rfl rfl ?_
 intro g1 W hW
 refine l_end (n_then (c_seq (c_seq (c_reg ?_))))
 refine aS ?_
 refine l_val (r_lenSlice Tryz.underlying155 rfl rfl) rfl rfl ?_
 refine aI ?_
 refine l_end (n_then (c_block ?_))
 refine c_loop (fun (x : Nat × Nat × Nat × Bool) (j : Nat → Value) => [.pointer (some ⟨gx, 0, none⟩), .slice oa on oc, .int .i64 f, j 3, j 4, j 5, .bool false, .pointer (some ⟨g1, 0, none⟩), j 8, j 9, j 10, j 11, j 12, j 13, .slice oa on oc, .int .i64 (on : Int), .int .i64 (x.1 : Int), j 17, j 18, j 19, j 20, j 21, j 22, j 23, j 24, j 25, j 26, j 27, j 28, j 29, j 30, j 31, j 32, j 33, j 34, j 35, j 36, j 37, j 38, j 39, j 40, j 41, j 42, j 43, j 44, j 45, j 46, j 47, j 48, j 49, j 50, j 51, j 52, j 53, j 54, j 55, j 56, j 57, j 58, j 59, j 60, j 61, j 62, j 63, j 64, j 65, j 66, j 67, j 68, j 69, j 70, j 71, j 72, j 73, j 74, j 75, j 76, j 77, j 78, j 79, j 80, j 81, j 82, j 83, j 84, j 85, j 86, j 87, j 88, j 89, j 90, j 91, j 92, j 93, j 94, j 95, j 96, j 97, j 98, j 99, j 100, j 101, j 102, j 103, j 104, j 105, j 106, j 107, j 108, j 109, j 110, j 111, j 112, j 113, j 114, j 115, j 116, j 117, j 118, j 119, j 120, j 121, j 122, j 123, j 124, j 125, j 126, j 127, j 128, j 129]) (fun (x : Nat × Nat × Nat × Bool) => [⟨g1, [.int .i64 (x.2.1 : Int), .int .i64 (x.2.2.1 : Int), .bool x.2.2.2], 206⟩, ⟨gx, (boC q t ++ R), ty⟩] ++ L) (fun (x : Nat × Nat × Nat × Bool) => x.1 ≤ on ∧ stp o f x.1 = x.2) (fun (x : Nat × Nat × Nat × Bool) => on - x.1) (0, 0, 0, false) (by kernel_rfl) hW ⟨Nat.zero_le _, rfl⟩ ?_
 intro x j W hx hW
 obtain ⟨hx, hst⟩ := hx
 have hle := stp_le o f x.1
 rw [hst] at hle
 refine c_seq (c_reg ?_)
 refine l_val (r_lssN rfl rfl rfl rfl) rfl rfl ?_
 refine l_split ?_ ?_
 ·intro hc1
  replace hc1 := of_decide_eq_true hc1
  obtain ⟨b0, o0, hao, hc⟩ := (hP W (hW.sub (List.sublist_append_right _ _))).ptr (by omega)
  simp only at hao
  subst hao
  refine l_end (n_then (c_seq ?_))
  refine c_true rfl ?_
  refine c_skip (n_then (c_seq (c_block (c_seq (c_reg ?_)))))
  refine aI ?_
  refine l_val (r_indexAddrSl2 (n := x.1) Tryz.underlying155 tyC4.size rfl rfl rfl (by omega)) rfl rfl ?_
  refine l_loadW tyC4 (v := .bool (o.getD x.1 false)) (hc x.1 (by omega)) rfl rfl rfl rfl ?_
  refine l_split ?_ ?_
  ·intro hc2
   refine bI ?_
   refine bB ?_
   refine l_end (n_then (c_block (c_seq (c_reg ?_))))
   refine aB ?_
   refine l_val (r_not rfl rfl) rfl rfl ?_
   refine bB ?_
   refine l_end (n_then ?_)
   refine c_false rfl ?_
   refine c_seq (c_reg ?_)
   refine aI ?_
   refine aI ?_
   refine l_val (r_lss rfl rfl rfl rfl) rfl rfl ?_
   refine l_split ?_ ?_
   ·intro hc3
    replace hc3 := of_decide_eq_true hc3
    refine bB ?_
    refine l_end (n_then ?_)
    refine c_true rfl ?_
    refine c_reg ?_
    refine l_val (r_fieldAddr 1 Tryz.underlying206 rfl tyC3.size rfl rfl rfl) rfl rfl ?_
    refine dC hW 0 tyC3 ?_
    refine l_val (r_addN (n := 1) rfl rfl rfl (by omega)) rfl rfl ?_
    refine l_val (r_fieldAddr 1 Tryz.underlying206 rfl tyC3.size rfl rfl rfl) rfl rfl ?_
    refine l_storeC hW 0 tyC3 (v := .int _ _) rfl rfl rfl rfl rfl rfl (by first | rfl | omega | (simp; done) | (simp; omega)) rfl ?_
    intro W hW
    refine l_end (n_block (n_block (n_then (c_reg ?_))))
    refine l_val (r_addN (n := 1) rfl rfl rfl (by omega)) rfl rfl ?_
    refine aI ?_
    refine l_end (n_then ?_)
    exact loop_next (x.1 + 1, x.2.1, x.2.2.1 + 1, x.2.2.2) (by kernel_rfl) hW ⟨by simp only; omega, by simp only [stp_wrong hc2 hc3, hst]⟩ (by simp only; omega)
   ·intro hc3
    replace hc3 := of_decide_eq_false hc3
    refine bB ?_
    refine l_end (n_then ?_)
    refine c_false rfl ?_
    refine c_seq (c_reg ?_)
    refine l_val (r_fieldAddr 2 Tryz.underlying206 rfl tyC4.size rfl rfl rfl) rfl rfl ?_
    refine dC hW 0 tyC4 ?_
    refine l_split ?_ ?_
    ·intro hc4
     refine aB ?_
     refine lN ?_
     refine lN ?_
     refine lN ?_
     refine lN ?_
     refine lN ?_
     refine lN ?_
     refine kB ?_
     refine l_val (r_fieldAddr 2 Tryz.underlying206 rfl tyC4.size rfl rfl rfl) rfl rfl ?_
     refine l_storeC hW 0 tyC4 (v := .bool _) rfl rfl rfl rfl rfl rfl (by first | rfl | omega | (simp; done) | (simp; omega)) rfl ?_
     intro W hW
     refine l_end (n_then (c_reg ?_))
     refine l_val (r_fieldAddr 0 Tryz.underlying206 rfl tyC3.size rfl rfl rfl) rfl rfl ?_
     refine dC hW 0 tyC3 ?_
     refine l_val (r_addN (n := 1) rfl rfl rfl (by omega)) rfl rfl ?_
     refine l_val (r_fieldAddr 0 Tryz.underlying206 rfl tyC3.size rfl rfl rfl) rfl rfl ?_
     refine l_storeC hW 0 tyC3 (v := .int _ _) rfl rfl rfl rfl rfl rfl (by first | rfl | omega | (simp; done) | (simp; omega)) rfl ?_
     intro W hW
     refine l_end (n_block (n_block (n_then (c_reg ?_))))
     refine l_val (r_addN (n := 1) rfl rfl rfl (by omega)) rfl rfl ?_
     refine aI ?_
     refine l_end (n_then ?_)
     exact loop_next (x.1 + 1, x.2.1 + 1, x.2.2.1, true) (by kernel_rfl) hW ⟨by simp only; omega, by simp only [stp_right hc2 hc3, hst]; exact congrArg (fun z => (x.2.1 + 1, x.2.2.1, z)) (by rw [hc4]; rfl)⟩ (by simp only; omega)
    ·intro hc4
     refine aB ?_
     refine l_valG (r_fieldAddr 1 Tryz.underlying206 rfl tyC3.size rfl rfl rfl) (by kernel_rfl) rfl ?_
     refine dG hW 0 tyC3 ?_
     refine l_valG (r_fieldAddr 0 Tryz.underlying206 rfl tyC3.size rfl rfl rfl) (by kernel_rfl) rfl ?_
     refine dG hW 0 tyC3 ?_
     refine l_valG (r_addN rfl rfl rfl (by omega)) (by kernel_rfl) rfl ?_
     refine l_valG (r_eqlN (n := 0) rfl rfl rfl rfl) (by kernel_rfl) rfl ?_
     refine l_split ?_ ?_
     ·intro hc5
      replace hc5 := of_decide_eq_true hc5
      refine kB ?_
      refine l_val (r_fieldAddr 2 Tryz.underlying206 rfl tyC4.size rfl rfl rfl) rfl rfl ?_
      refine l_storeC hW 0 tyC4 (v := .bool _) rfl rfl rfl rfl rfl rfl (by first | rfl | omega | (simp; done) | (simp; omega)) rfl ?_
      intro W hW
      refine l_end (n_then (c_reg ?_))
      refine l_val (r_fieldAddr 0 Tryz.underlying206 rfl tyC3.size rfl rfl rfl) rfl rfl ?_
      refine dC hW 0 tyC3 ?_
      refine l_val (r_addN (n := 1) rfl rfl rfl (by omega)) rfl rfl ?_
      refine l_val (r_fieldAddr 0 Tryz.underlying206 rfl tyC3.size rfl rfl rfl) rfl rfl ?_
      refine l_storeC hW 0 tyC3 (v := .int _ _) rfl rfl rfl rfl rfl rfl (by first | rfl | omega | (simp; done) | (simp; omega)) rfl ?_
      intro W hW
      refine l_end (n_block (n_block (n_then (c_reg ?_))))
      refine l_val (r_addN (n := 1) rfl rfl rfl (by omega)) rfl rfl ?_
      refine aI ?_
      refine l_end (n_then ?_)
      exact loop_next (x.1 + 1, x.2.1 + 1, x.2.2.1, true) (by kernel_rfl) hW ⟨by simp only; omega, by simp only [stp_right hc2 hc3, hst]; exact congrArg (fun z => (x.2.1 + 1, x.2.2.1, z)) (by rw [hc4, decide_eq_true (by omega)]; rfl)⟩ (by simp only; omega)
     ·intro hc5
      replace hc5 := of_decide_eq_false hc5
      refine kB ?_
      refine l_val (r_fieldAddr 2 Tryz.underlying206 rfl tyC4.size rfl rfl rfl) rfl rfl ?_
      refine l_storeC hW 0 tyC4 (v := .bool _) rfl rfl rfl rfl rfl rfl (by first | rfl | omega | (simp; done) | (simp; omega)) rfl ?_
      intro W hW
      refine l_end (n_then (c_reg ?_))
      refine l_val (r_fieldAddr 0 Tryz.underlying206 rfl tyC3.size rfl rfl rfl) rfl rfl ?_
      refine dC hW 0 tyC3 ?_
      refine l_val (r_addN (n := 1) rfl rfl rfl (by omega)) rfl rfl ?_
      refine l_val (r_fieldAddr 0 Tryz.underlying206 rfl tyC3.size rfl rfl rfl) rfl rfl ?_
      refine l_storeC hW 0 tyC3 (v := .int _ _) rfl rfl rfl rfl rfl rfl (by first | rfl | omega | (simp; done) | (simp; omega)) rfl ?_
      intro W hW
      refine l_end (n_block (n_block (n_then (c_reg ?_))))
      refine l_val (r_addN (n := 1) rfl rfl rfl (by omega)) rfl rfl ?_
      refine aI ?_
      refine l_end (n_then ?_)
      exact loop_next (x.1 + 1, x.2.1 + 1, x.2.2.1, false) (by kernel_rfl) hW ⟨by simp only; omega, by simp only [stp_right hc2 hc3, hst]; exact congrArg (fun z => (x.2.1 + 1, x.2.2.1, z)) (by rw [hc4, decide_eq_false (by omega)]; rfl)⟩ (by simp only; omega)
  ·intro hc2
   refine bI ?_
   refine bB ?_
   refine l_end (n_then (c_block (c_seq (c_reg ?_))))
   refine aB ?_
   refine l_val (r_not rfl rfl) rfl rfl ?_
   refine bB ?_
   refine l_end (n_then ?_)
   refine c_true rfl ?_
   refine c_skip (n_block (n_block (n_then (c_reg ?_))))
   refine l_val (r_addN (n := 1) rfl rfl rfl (by omega)) rfl rfl ?_
   refine aI ?_
   refine l_end (n_then ?_)
   exact loop_next (x.1 + 1, x.2) (by kernel_rfl) hW ⟨by simp only; omega, (stp_no hc2).trans hst⟩ (by simp only; omega)
 ·intro hc1
  replace hc1 := of_decide_eq_false hc1
  refine l_end (n_then (c_seq ?_))
  refine c_false rfl ?_
  refine c_exit (x_then (x_then ?_))
  refine x_hit ?_
  refine n_then (c_seq ?_)
  refine c_regY hW [] [.q, .q, .q, .q, .q, .q, .q, .q, .q, .q, .q] [0, 1, 3, 7, 0, 16, 48, 112, 240, 15, 1023] (by kernel_rfl) (by kernel_rfl) ?_
  refine y_val (r_move (v := .pointer _) rfl rfl) rfl rfl ?_
  refine y_val (r_nilCheck rfl rfl) rfl rfl ?_
  refine y_val (r_fieldAddr 26 Tryz.underlying31 rfl tyC3.size rfl rfl rfl) rfl rfl ?_
  refine y_loadC 1 tyC3 rfl rfl rfl rfl rfl rfl (by decide) ?_
  refine y_val (r_move (v := .pointer _) rfl rfl) rfl rfl ?_
  refine y_val (r_nilCheck rfl rfl) rfl rfl ?_
  refine y_val (r_fieldAddr 8 Tryz.underlying31 rfl tyC3.size rfl rfl rfl) rfl rfl ?_
  refine y_loadC 1 tyC3 rfl rfl rfl rfl rfl rfl (by decide) ?_
  refine y_val (r_addZ rfl rfl rfl (by omega)) rfl rfl ?_
  refine y_val (r_assign (v := .int _ _) rfl rfl) rfl rfl ?_
  refine y_val (r_assign (v := .int _ _) rfl rfl) rfl rfl ?_
  refine y_end ?_
  intro W hW
  refine n_then (c_seq (c_reg ?_))
  refine aP ?_
  refine l_val (r_nilCheck rfl rfl) rfl rfl ?_
  refine l_val (r_fieldAddr 26 Tryz.underlying31 rfl tyC3.size rfl rfl rfl) rfl rfl ?_
  refine dC hW 1 tyC3 ?_
  refine l_val (r_addZ rfl rfl rfl (by omega)) rfl rfl ?_
  refine l_val (r_nilCheck rfl rfl) rfl rfl ?_
  refine l_val (r_fieldAddr 26 Tryz.underlying31 rfl tyC3.size rfl rfl rfl) rfl rfl ?_
  refine l_storeC hW 1 tyC3 (v := .int .i64 (q.a + 1)) rfl rfl rfl rfl rfl rfl (by rw [List.length_append, boC_len]; omega) rfl ?_
  intro W hW
  replace hW := (show Cl _ ([_, ⟨_, (boC q t ++ R).set 26 (.int .i64 (q.a + 1)), _⟩] ++ L) _ from hW)
  rw [boC_setAR] at hW
  refine l_end (n_then (c_seq (c_seq (c_reg ?_))))
  refine l_val (r_fieldAddr 0 Tryz.underlying206 rfl tyC3.size rfl rfl rfl) rfl rfl ?_
  refine dC hW 0 tyC3 ?_
  refine l_val (r_gtrN (n := 0) rfl rfl rfl rfl) rfl rfl ?_
  refine l_split ?_ ?_
  ·intro hc6
   replace hc6 := of_decide_eq_true hc6
   refine aB ?_
   refine l_valG (r_fieldAddr 1 Tryz.underlying206 rfl tyC3.size rfl rfl rfl) (by kernel_rfl) rfl ?_
   refine dG hW 0 tyC3 ?_
   refine l_valG (r_gtrN (n := 0) rfl rfl rfl rfl) (by kernel_rfl) rfl ?_
   refine l_split ?_ ?_
   ·intro hc7
    replace hc7 := of_decide_eq_true hc7
    refine kB ?_
    refine l_end (n_then ?_)
    refine c_true rfl ?_
    refine c_reg ?_
    refine aP ?_
    refine l_val (r_nilCheck rfl rfl) rfl rfl ?_
    refine l_val (r_fieldAddr 27 Tryz.underlying31 rfl tyC3.size rfl rfl rfl) rfl rfl ?_
    refine l_loadC hW 1 tyC3 (v := .int .i64 q.x) rfl rfl rfl rfl rfl rfl ?_
    refine l_val (r_addZ rfl rfl rfl (by omega)) rfl rfl ?_
    refine l_val (r_nilCheck rfl rfl) rfl rfl ?_
    refine l_val (r_fieldAddr 27 Tryz.underlying31 rfl tyC3.size rfl rfl rfl) rfl rfl ?_
    refine l_storeC hW 1 tyC3 (v := .int .i64 (q.x + 1)) rfl rfl rfl rfl rfl rfl (by rw [List.length_append, boC_len]; omega) rfl ?_
    intro W hW
    replace hW := (show Cl _ ([_, ⟨_, (boC { q with a := q.a + 1 } t ++ R).set 27 (.int .i64 (q.x + 1)), _⟩] ++ L) _ from hW)
    rw [boC_setXR] at hW
    refine l_end ?_
    have hax := after_p (b := q) (r := x.2.1) (w := x.2.2.1) ⟨by omega, by omega⟩
    obtain ⟨b1, hb1⟩ : ∃ b1, b1 = after q x.2.1 x.2.2.1 := ⟨_, rfl⟩
    have es : b1 = { q with a := q.a + 1, x := q.x + 1 } := hb1.trans hax
    have ev : b1.v = q.v := by rw [es]
    have en : b1.n = q.n := by rw [es]
    have em : b1.m = q.m := by rw [es]
    have ek : b1.k = q.k := by rw [es]
    have ex : b1.x = q.x + 1 := by rw [es]
    rw [← es] at hW
    refine n_then (c_seq ?_)
    refine c_regY hW [] [.q, .q, .q, .q, .q, .q, .q, .q, .q, .q, .q, .q, .q, .q, .q, .q, .q] [0, 1, 3, 7, 15, 31, 63, 127, 255, 511, 63, 1087, 3135, 7231, 16383, 32767, 65535] (by kernel_rfl) (by kernel_rfl) ?_
    refine y_val (r_move (v := .pointer _) rfl rfl) rfl rfl ?_
    refine y_val (r_nilCheck rfl rfl) rfl rfl ?_
    refine y_val (r_fieldAddr 9 Tryz.underlying31 rfl tyC3.size rfl rfl rfl) rfl rfl ?_
    refine y_loadC 1 tyC3 rfl rfl rfl rfl rfl rfl (by decide) ?_
    refine y_val (r_gtr rfl rfl rfl rfl) rfl rfl ?_
    refine y_split ?_ ?_
    ·intro hc8
     replace hc8 := of_decide_eq_true hc8
     refine yB ?_
     refine y_val (r_move (v := .pointer _) rfl rfl) (by kernel_rfl) rfl ?_
     refine y_val (r_nilCheck rfl rfl) (by kernel_rfl) rfl ?_
     refine y_val (r_fieldAddr 27 Tryz.underlying31 rfl tyC3.size rfl rfl rfl) (by kernel_rfl) rfl ?_
     refine y_loadC 1 tyC3 (by kernel_rfl) rfl rfl rfl rfl rfl (by decide) ?_
     refine y_val (r_move (v := .pointer _) rfl rfl) (by kernel_rfl) rfl ?_
     refine y_val (r_nilCheck rfl rfl) (by kernel_rfl) rfl ?_
     refine y_val (r_fieldAddr 9 Tryz.underlying31 rfl tyC3.size rfl rfl rfl) (by kernel_rfl) rfl ?_
     refine y_loadC 1 tyC3 (by kernel_rfl) rfl rfl rfl rfl rfl (by decide) ?_
     refine y_val (r_gtr rfl rfl rfl rfl) (by kernel_rfl) rfl ?_
     refine y_split ?_ ?_
     ·intro hc9
      replace hc9 := of_decide_eq_true hc9
      refine yK ?_
      refine y_val (r_assign (v := .bool _) rfl rfl) rfl rfl ?_
      refine y_end ?_
      intro W hW
      refine n_then (c_seq ?_)
      refine c_regY hW [] [.q, .q, .q, .q, .q, .q, .q, .q, .q, .q, .q, .q, .q, .q, .q, .q, .q] [0, 1, 3, 7, 0, 0, 48, 112, 0, 256, 1023, 0, 0, 6144, 14336, 32767, 65535] (by kernel_rfl) (by kernel_rfl) ?_
      refine y_val (r_move (v := .pointer _) rfl rfl) rfl rfl ?_
      refine y_val (r_nilCheck rfl rfl) rfl rfl ?_
      refine y_val (r_fieldAddr 10 Tryz.underlying31 rfl tyA29.size rfl rfl rfl) rfl rfl ?_
      refine y_loadP 1 tyA29 (by kernel_rfl) rfl rfl rfl rfl (by rw [List.length_append, boC_len]; omega) (boC_keyR _ _ _) (by decide) ?_
      refine yI ?_
      refine yI ?_
      refine y_val (r_quoN (m := q.a.toNat) (n := q.n.toNat + 1) rfl (congrArg (Value.int .i64) ha) (congrArg (Value.int .i64) hb) (by omega) (by omega)) rfl rfl ?_
      refine y_val (r_conv_i64_u64 Tryz.underlying3 Tryz.underlying22 rfl rfl) rfl rfl ?_
      refine yI ?_
      refine y_val (r_conv_i64_u64 (n := q.n.toNat + 1) Tryz.underlying3 Tryz.underlying22 rfl (congrArg (Value.int .i64) hb)) rfl rfl ?_
      refine y_call (g_Number _ _ _) en129 rfl rfl rfl rfl ?_
      refine yI ?_
      refine yI ?_
      refine y_val (r_remN (m := q.a.toNat) (n := q.n.toNat + 1) rfl (congrArg (Value.int .i64) ha) (congrArg (Value.int .i64) hb) (by omega)) rfl rfl ?_
      refine y_val (r_conv_i64_u64 Tryz.underlying3 Tryz.underlying22 rfl rfl) rfl rfl ?_
      refine y_val (r_neqN rfl rfl rfl rfl) rfl rfl ?_
      refine y_split ?_ ?_
      ·intro hc10
       replace hc10 := of_decide_eq_true hc10
       refine y_val (r_assign (v := .bool _) rfl rfl) rfl rfl ?_
       refine y_end ?_
       intro W hW
       refine n_then (c_seq (c_seq (c_reg ?_)))
       refine l_val (r_fieldAddr 0 Tryz.underlying206 rfl tyC3.size rfl rfl rfl) rfl rfl ?_
       refine dC hW 0 tyC3 ?_
       refine l_val (r_eqlN (n := 0) rfl rfl rfl rfl) rfl rfl ?_
       refine l_split ?_ ?_
       ·intro hc11
        replace hc11 := of_decide_eq_true hc11
        refine aB ?_
        refine lN ?_
        refine kB ?_
        refine aB ?_
        refine lN ?_
        refine kB ?_
        refine l_end (n_then ?_)
        refine c_true rfl ?_
        refine c_seq (c_reg ?_)
        refine bB ?_
        refine l_end (n_then (c_ret (r_then ?_)))
        refine ret_tmp (v := .bool _) rfl rfl ?_
        have e1 : stp o f o.length = x.2 := by rw [show o.length = x.1 by omega]; exact hst
        have hv : askW q x.2.1 x.2.2.1 x.2.2.2 = _ := ask_no (by rw [← hb1]; omega)
        exact ⟨_, [_], rfl, ⟨by rw [plays, e1]; exact congrArg Value.bool hv.symm, by rw [askd, e1, ← hb1]⟩, hW.drop 1⟩
       ·intro hc11
        replace hc11 := of_decide_eq_false hc11
        refine aB ?_
        refine l_valG (r_move (v := .bool _) rfl rfl) (by kernel_rfl) rfl ?_
        refine kB ?_
        refine aB ?_
        refine lN ?_
        refine kB ?_
        refine l_end (n_then ?_)
        refine c_true rfl ?_
        refine c_seq (c_reg ?_)
        refine bB ?_
        refine l_end (n_then (c_ret (r_then ?_)))
        refine ret_tmp (v := .bool _) rfl rfl ?_
        have e1 : stp o f o.length = x.2 := by rw [show o.length = x.1 by omega]; exact hst
        have hv : askW q x.2.1 x.2.2.1 x.2.2.2 = _ := ask_no (by rw [← hb1]; omega)
        exact ⟨_, [_], rfl, ⟨by rw [plays, e1]; exact congrArg Value.bool hv.symm, by rw [askd, e1, ← hb1]⟩, hW.drop 1⟩
      ·intro hc10
       replace hc10 := of_decide_eq_false hc10
       refine y_val (r_assign (v := .bool _) rfl rfl) rfl rfl ?_
       refine y_end ?_
       intro W hW
       refine n_then (c_seq (c_seq (c_reg ?_)))
       refine l_val (r_fieldAddr 0 Tryz.underlying206 rfl tyC3.size rfl rfl rfl) rfl rfl ?_
       refine dC hW 0 tyC3 ?_
       refine l_val (r_eqlN (n := 0) rfl rfl rfl rfl) rfl rfl ?_
       refine l_split ?_ ?_
       ·intro hc12
        replace hc12 := of_decide_eq_true hc12
        refine aB ?_
        refine lN ?_
        refine kB ?_
        refine aB ?_
        refine lN ?_
        refine kB ?_
        refine l_end (n_then ?_)
        refine c_true rfl ?_
        refine c_seq (c_reg ?_)
        refine bB ?_
        refine l_end (n_then (c_ret (r_then ?_)))
        refine ret_tmp (v := .bool _) rfl rfl ?_
        have e1 : stp o f o.length = x.2 := by rw [show o.length = x.1 by omega]; exact hst
        have hv : askW q x.2.1 x.2.2.1 x.2.2.2 = _ := ask_no (by rw [← hb1]; omega)
        exact ⟨_, [_], rfl, ⟨by rw [plays, e1]; exact congrArg Value.bool hv.symm, by rw [askd, e1, ← hb1]⟩, hW.drop 1⟩
       ·intro hc12
        replace hc12 := of_decide_eq_false hc12
        refine aB ?_
        refine l_valG (r_move (v := .bool _) rfl rfl) (by kernel_rfl) rfl ?_
        refine kB ?_
        refine aB ?_
        refine lN ?_
        refine kB ?_
        refine l_end (n_then ?_)
        refine c_true rfl ?_
        refine c_seq (c_reg ?_)
        refine bB ?_
        refine l_end (n_then (c_ret (r_then ?_)))
        refine ret_tmp (v := .bool _) rfl rfl ?_
        have e1 : stp o f o.length = x.2 := by rw [show o.length = x.1 by omega]; exact hst
        have hv : askW q x.2.1 x.2.2.1 x.2.2.2 = _ := ask_no (by rw [← hb1]; omega)
        exact ⟨_, [_], rfl, ⟨by rw [plays, e1]; exact congrArg Value.bool hv.symm, by rw [askd, e1, ← hb1]⟩, hW.drop 1⟩
     ·intro hc9
      replace hc9 := of_decide_eq_false hc9
      refine yK ?_
      refine y_val (r_assign (v := .bool _) rfl rfl) rfl rfl ?_
      refine y_end ?_
      intro W hW
      refine n_then (c_seq ?_)
      refine c_regY hW [] [.q, .q, .q, .q, .q, .q, .q, .q, .q, .q, .q, .q, .q, .q, .q, .q, .q] [0, 1, 3, 7, 0, 0, 48, 112, 0, 256, 1023, 0, 0, 6144, 14336, 32767, 65535] (by kernel_rfl) (by kernel_rfl) ?_
      refine y_val (r_move (v := .pointer _) rfl rfl) rfl rfl ?_
      refine y_val (r_nilCheck rfl rfl) rfl rfl ?_
      refine y_val (r_fieldAddr 10 Tryz.underlying31 rfl tyA29.size rfl rfl rfl) rfl rfl ?_
      refine y_loadP 1 tyA29 (by kernel_rfl) rfl rfl rfl rfl (by rw [List.length_append, boC_len]; omega) (boC_keyR _ _ _) (by decide) ?_
      refine yI ?_
      refine yI ?_
      refine y_val (r_quoN (m := q.a.toNat) (n := q.n.toNat + 1) rfl (congrArg (Value.int .i64) ha) (congrArg (Value.int .i64) hb) (by omega) (by omega)) rfl rfl ?_
      refine y_val (r_conv_i64_u64 Tryz.underlying3 Tryz.underlying22 rfl rfl) rfl rfl ?_
      refine yI ?_
      refine y_val (r_conv_i64_u64 (n := q.n.toNat + 1) Tryz.underlying3 Tryz.underlying22 rfl (congrArg (Value.int .i64) hb)) rfl rfl ?_
      refine y_call (g_Number _ _ _) en129 rfl rfl rfl rfl ?_
      refine yI ?_
      refine yI ?_
      refine y_val (r_remN (m := q.a.toNat) (n := q.n.toNat + 1) rfl (congrArg (Value.int .i64) ha) (congrArg (Value.int .i64) hb) (by omega)) rfl rfl ?_
      refine y_val (r_conv_i64_u64 Tryz.underlying3 Tryz.underlying22 rfl rfl) rfl rfl ?_
      refine y_val (r_neqN rfl rfl rfl rfl) rfl rfl ?_
      refine y_split ?_ ?_
      ·intro hc13
       replace hc13 := of_decide_eq_true hc13
       refine y_val (r_assign (v := .bool _) rfl rfl) rfl rfl ?_
       refine y_end ?_
       intro W hW
       refine n_then (c_seq (c_seq (c_reg ?_)))
       refine l_val (r_fieldAddr 0 Tryz.underlying206 rfl tyC3.size rfl rfl rfl) rfl rfl ?_
       refine dC hW 0 tyC3 ?_
       refine l_val (r_eqlN (n := 0) rfl rfl rfl rfl) rfl rfl ?_
       refine l_split ?_ ?_
       ·intro hc14
        replace hc14 := of_decide_eq_true hc14
        refine aB ?_
        refine lN ?_
        refine kB ?_
        refine aB ?_
        refine lN ?_
        refine kB ?_
        refine l_end (n_then ?_)
        refine c_true rfl ?_
        refine c_seq (c_reg ?_)
        refine bB ?_
        refine l_end (n_then (c_ret (r_then ?_)))
        refine ret_tmp (v := .bool _) rfl rfl ?_
        have e1 : stp o f o.length = x.2 := by rw [show o.length = x.1 by omega]; exact hst
        have hv : askW q x.2.1 x.2.2.1 x.2.2.2 = _ := ask_no (by rw [← hb1]; omega)
        exact ⟨_, [_], rfl, ⟨by rw [plays, e1]; exact congrArg Value.bool hv.symm, by rw [askd, e1, ← hb1]⟩, hW.drop 1⟩
       ·intro hc14
        replace hc14 := of_decide_eq_false hc14
        refine aB ?_
        refine l_valG (r_move (v := .bool _) rfl rfl) (by kernel_rfl) rfl ?_
        refine kB ?_
        refine aB ?_
        refine l_valG (r_move (v := .bool _) rfl rfl) (by kernel_rfl) rfl ?_
        refine kB ?_
        refine l_end (n_then ?_)
        refine c_true rfl ?_
        refine c_seq (c_reg ?_)
        refine bB ?_
        refine l_end (n_then (c_ret (r_then ?_)))
        refine ret_tmp (v := .bool _) rfl rfl ?_
        have e1 : stp o f o.length = x.2 := by rw [show o.length = x.1 by omega]; exact hst
        have hv : askW q x.2.1 x.2.2.1 x.2.2.2 = _ := ask_no (.inr (.inr (decide_eq_true (by rw [← ek]; exact hc13))))
        exact ⟨_, [_], rfl, ⟨by rw [plays, e1]; exact congrArg Value.bool hv.symm, by rw [askd, e1, ← hb1]⟩, hW.drop 1⟩
      ·intro hc13
       replace hc13 := of_decide_eq_false hc13
       refine y_val (r_assign (v := .bool _) rfl rfl) rfl rfl ?_
       refine y_end ?_
       intro W hW
       refine n_then (c_seq (c_seq (c_reg ?_)))
       refine l_val (r_fieldAddr 0 Tryz.underlying206 rfl tyC3.size rfl rfl rfl) rfl rfl ?_
       refine dC hW 0 tyC3 ?_
       refine l_val (r_eqlN (n := 0) rfl rfl rfl rfl) rfl rfl ?_
       refine l_split ?_ ?_
       ·intro hc15
        replace hc15 := of_decide_eq_true hc15
        refine aB ?_
        refine lN ?_
        refine kB ?_
        refine aB ?_
        refine lN ?_
        refine kB ?_
        refine l_end (n_then ?_)
        refine c_true rfl ?_
        refine c_seq (c_reg ?_)
        refine bB ?_
        refine l_end (n_then (c_ret (r_then ?_)))
        refine ret_tmp (v := .bool _) rfl rfl ?_
        have e1 : stp o f o.length = x.2 := by rw [show o.length = x.1 by omega]; exact hst
        have hv : askW q x.2.1 x.2.2.1 x.2.2.2 = _ := ask_no (by rw [← hb1]; omega)
        exact ⟨_, [_], rfl, ⟨by rw [plays, e1]; exact congrArg Value.bool hv.symm, by rw [askd, e1, ← hb1]⟩, hW.drop 1⟩
       ·intro hc15
        replace hc15 := of_decide_eq_false hc15
        refine aB ?_
        refine l_valG (r_move (v := .bool _) rfl rfl) (by kernel_rfl) rfl ?_
        refine kB ?_
        refine aB ?_
        refine l_valG (r_move (v := .bool _) rfl rfl) (by kernel_rfl) rfl ?_
        refine kB ?_
        refine l_end (n_then ?_)
        refine c_false rfl ?_
        refine c_skip (n_then (c_seq ?_))
        refine c_regY hW [] [.q, .q, .q, .q, .q, .q, .q, .q, .q, .q, .q] [0, 1, 3, 7, 15, 31, 63, 15, 255, 511, 1023] (by kernel_rfl) (by kernel_rfl) ?_
        refine y_val (r_fieldAddr 1 Tryz.underlying206 rfl tyC3.size rfl rfl rfl) rfl rfl ?_
        refine y_loadC 0 tyC3 rfl rfl rfl rfl rfl rfl (by decide) ?_
        refine y_val (r_eqlN (n := 0) rfl rfl rfl rfl) rfl rfl ?_
        refine y_split ?_ ?_
        ·intro hc16
         replace hc16 := of_decide_eq_true hc16
         refine yB ?_
         refine yN ?_
         refine yN ?_
         refine yN ?_
         refine yN ?_
         refine yN ?_
         refine yK ?_
         refine y_val (r_assign (v := .bool _) rfl rfl) rfl rfl ?_
         refine y_end ?_
         intro W hW
         refine n_then (c_ret ?_)
         refine ret_tmp (v := .bool _) rfl rfl ?_
         have e1 : stp o f o.length = x.2 := by rw [show o.length = x.1 by omega]; exact hst
         have hneg : ¬ (x.2.1 = 0 ∨ (0 < q.v ∧ q.v < (after q x.2.1 x.2.2.1).x) ∨ noiseB q = true) := by
          rw [← hb1, show noiseB q = false from decide_eq_false (by rw [← ek]; exact hc13)]
          rintro (h | ⟨h1, h2⟩ | h)
          ·omega
          ·omega
          ·cases h
         have hv : askW q x.2.1 x.2.2.1 x.2.2.2 = _ := ask_y0 hneg (by omega)
         exact ⟨_, [_], rfl, ⟨by rw [plays, e1]; exact congrArg Value.bool hv.symm, by rw [askd, e1, ← hb1]⟩, hW.drop 1⟩
        ·intro hc16
         replace hc16 := of_decide_eq_false hc16
         refine yB ?_
         refine y_val (r_move (v := .pointer _) rfl rfl) (by kernel_rfl) rfl ?_
         refine y_val (r_nilCheck rfl rfl) (by kernel_rfl) rfl ?_
         refine y_loadP 1 tyA31 (by kernel_rfl) rfl rfl rfl rfl (by rw [List.length_append, boC_len]; omega) (boC_boxR _ _ _) (by decide) ?_
         refine y_loadA 0 tyA206 (by kernel_rfl) rfl rfl rfl rfl (by first | rfl | exact kc_len _ | exact kcf_len _ | exact boC_len _ _ | (simp; done)) (by decide) ?_
         refine y_call (g_plays b1 t x.2.1 x.2.2.1 x.2.2.2 (by omega) (by omega) (by omega) (by omega)) en130 (by kernel_rfl) rfl rfl rfl ?_
         refine yK ?_
         refine y_val (r_assign (v := .bool _) rfl rfl) rfl rfl ?_
         refine y_end ?_
         intro W hW
         refine n_then (c_ret ?_)
         refine ret_tmp (v := .bool _) rfl rfl ?_
         have e1 : stp o f o.length = x.2 := by rw [show o.length = x.1 by omega]; exact hst
         have hneg : ¬ (x.2.1 = 0 ∨ (0 < q.v ∧ q.v < (after q x.2.1 x.2.2.1).x) ∨ noiseB q = true) := by
          rw [← hb1, show noiseB q = false from decide_eq_false (by rw [← ek]; exact hc13)]
          rintro (h | ⟨h1, h2⟩ | h)
          ·omega
          ·omega
          ·cases h
         have hv : askW q x.2.1 x.2.2.1 x.2.2.2 = _ := (ask_w hneg (by omega)).trans (play_congr em ek).symm
         exact ⟨_, [_], rfl, ⟨by rw [plays, e1]; exact congrArg Value.bool hv.symm, by rw [askd, e1, ← hb1]⟩, hW.drop 1⟩
    ·intro hc8
     replace hc8 := of_decide_eq_false hc8
     refine yB ?_
     refine yN ?_
     refine yN ?_
     refine yN ?_
     refine yN ?_
     refine yN ?_
     refine yN ?_
     refine yN ?_
     refine yN ?_
     refine yN ?_
     refine yK ?_
     refine y_val (r_assign (v := .bool _) rfl rfl) rfl rfl ?_
     refine y_end ?_
     intro W hW
     refine n_then (c_seq ?_)
     refine c_regY hW [] [.q, .q, .q, .q, .q, .q, .q, .q, .q, .q, .q, .q, .q, .q, .q, .q, .q] [0, 1, 3, 7, 0, 0, 48, 112, 0, 256, 1023, 0, 0, 6144, 14336, 32767, 65535] (by kernel_rfl) (by kernel_rfl) ?_
     refine y_val (r_move (v := .pointer _) rfl rfl) rfl rfl ?_
     refine y_val (r_nilCheck rfl rfl) rfl rfl ?_
     refine y_val (r_fieldAddr 10 Tryz.underlying31 rfl tyA29.size rfl rfl rfl) rfl rfl ?_
     refine y_loadP 1 tyA29 (by kernel_rfl) rfl rfl rfl rfl (by rw [List.length_append, boC_len]; omega) (boC_keyR _ _ _) (by decide) ?_
     refine yI ?_
     refine yI ?_
     refine y_val (r_quoN (m := q.a.toNat) (n := q.n.toNat + 1) rfl (congrArg (Value.int .i64) ha) (congrArg (Value.int .i64) hb) (by omega) (by omega)) rfl rfl ?_
     refine y_val (r_conv_i64_u64 Tryz.underlying3 Tryz.underlying22 rfl rfl) rfl rfl ?_
     refine yI ?_
     refine y_val (r_conv_i64_u64 (n := q.n.toNat + 1) Tryz.underlying3 Tryz.underlying22 rfl (congrArg (Value.int .i64) hb)) rfl rfl ?_
     refine y_call (g_Number _ _ _) en129 rfl rfl rfl rfl ?_
     refine yI ?_
     refine yI ?_
     refine y_val (r_remN (m := q.a.toNat) (n := q.n.toNat + 1) rfl (congrArg (Value.int .i64) ha) (congrArg (Value.int .i64) hb) (by omega)) rfl rfl ?_
     refine y_val (r_conv_i64_u64 Tryz.underlying3 Tryz.underlying22 rfl rfl) rfl rfl ?_
     refine y_val (r_neqN rfl rfl rfl rfl) rfl rfl ?_
     refine y_split ?_ ?_
     ·intro hc17
      replace hc17 := of_decide_eq_true hc17
      refine y_val (r_assign (v := .bool _) rfl rfl) rfl rfl ?_
      refine y_end ?_
      intro W hW
      refine n_then (c_seq (c_seq (c_reg ?_)))
      refine l_val (r_fieldAddr 0 Tryz.underlying206 rfl tyC3.size rfl rfl rfl) rfl rfl ?_
      refine dC hW 0 tyC3 ?_
      refine l_val (r_eqlN (n := 0) rfl rfl rfl rfl) rfl rfl ?_
      refine l_split ?_ ?_
      ·intro hc18
       replace hc18 := of_decide_eq_true hc18
       refine aB ?_
       refine lN ?_
       refine kB ?_
       refine aB ?_
       refine lN ?_
       refine kB ?_
       refine l_end (n_then ?_)
       refine c_true rfl ?_
       refine c_seq (c_reg ?_)
       refine bB ?_
       refine l_end (n_then (c_ret (r_then ?_)))
       refine ret_tmp (v := .bool _) rfl rfl ?_
       have e1 : stp o f o.length = x.2 := by rw [show o.length = x.1 by omega]; exact hst
       have hv : askW q x.2.1 x.2.2.1 x.2.2.2 = _ := ask_no (by rw [← hb1]; omega)
       exact ⟨_, [_], rfl, ⟨by rw [plays, e1]; exact congrArg Value.bool hv.symm, by rw [askd, e1, ← hb1]⟩, hW.drop 1⟩
      ·intro hc18
       replace hc18 := of_decide_eq_false hc18
       refine aB ?_
       refine l_valG (r_move (v := .bool _) rfl rfl) (by kernel_rfl) rfl ?_
       refine kB ?_
       refine aB ?_
       refine l_valG (r_move (v := .bool _) rfl rfl) (by kernel_rfl) rfl ?_
       refine kB ?_
       refine l_end (n_then ?_)
       refine c_true rfl ?_
       refine c_seq (c_reg ?_)
       refine bB ?_
       refine l_end (n_then (c_ret (r_then ?_)))
       refine ret_tmp (v := .bool _) rfl rfl ?_
       have e1 : stp o f o.length = x.2 := by rw [show o.length = x.1 by omega]; exact hst
       have hv : askW q x.2.1 x.2.2.1 x.2.2.2 = _ := ask_no (.inr (.inr (decide_eq_true (by rw [← ek]; exact hc17))))
       exact ⟨_, [_], rfl, ⟨by rw [plays, e1]; exact congrArg Value.bool hv.symm, by rw [askd, e1, ← hb1]⟩, hW.drop 1⟩
     ·intro hc17
      replace hc17 := of_decide_eq_false hc17
      refine y_val (r_assign (v := .bool _) rfl rfl) rfl rfl ?_
      refine y_end ?_
      intro W hW
      refine n_then (c_seq (c_seq (c_reg ?_)))
      refine l_val (r_fieldAddr 0 Tryz.underlying206 rfl tyC3.size rfl rfl rfl) rfl rfl ?_
      refine dC hW 0 tyC3 ?_
      refine l_val (r_eqlN (n := 0) rfl rfl rfl rfl) rfl rfl ?_
      refine l_split ?_ ?_
      ·intro hc19
       replace hc19 := of_decide_eq_true hc19
       refine aB ?_
       refine lN ?_
       refine kB ?_
       refine aB ?_
       refine lN ?_
       refine kB ?_
       refine l_end (n_then ?_)
       refine c_true rfl ?_
       refine c_seq (c_reg ?_)
       refine bB ?_
       refine l_end (n_then (c_ret (r_then ?_)))
       refine ret_tmp (v := .bool _) rfl rfl ?_
       have e1 : stp o f o.length = x.2 := by rw [show o.length = x.1 by omega]; exact hst
       have hv : askW q x.2.1 x.2.2.1 x.2.2.2 = _ := ask_no (by rw [← hb1]; omega)
       exact ⟨_, [_], rfl, ⟨by rw [plays, e1]; exact congrArg Value.bool hv.symm, by rw [askd, e1, ← hb1]⟩, hW.drop 1⟩
      ·intro hc19
       replace hc19 := of_decide_eq_false hc19
       refine aB ?_
       refine l_valG (r_move (v := .bool _) rfl rfl) (by kernel_rfl) rfl ?_
       refine kB ?_
       refine aB ?_
       refine l_valG (r_move (v := .bool _) rfl rfl) (by kernel_rfl) rfl ?_
       refine kB ?_
       refine l_end (n_then ?_)
       refine c_false rfl ?_
       refine c_skip (n_then (c_seq ?_))
       refine c_regY hW [] [.q, .q, .q, .q, .q, .q, .q, .q, .q, .q, .q] [0, 1, 3, 7, 15, 31, 63, 15, 255, 511, 1023] (by kernel_rfl) (by kernel_rfl) ?_
       refine y_val (r_fieldAddr 1 Tryz.underlying206 rfl tyC3.size rfl rfl rfl) rfl rfl ?_
       refine y_loadC 0 tyC3 rfl rfl rfl rfl rfl rfl (by decide) ?_
       refine y_val (r_eqlN (n := 0) rfl rfl rfl rfl) rfl rfl ?_
       refine y_split ?_ ?_
       ·intro hc20
        replace hc20 := of_decide_eq_true hc20
        refine yB ?_
        refine yN ?_
        refine yN ?_
        refine yN ?_
        refine yN ?_
        refine yN ?_
        refine yK ?_
        refine y_val (r_assign (v := .bool _) rfl rfl) rfl rfl ?_
        refine y_end ?_
        intro W hW
        refine n_then (c_ret ?_)
        refine ret_tmp (v := .bool _) rfl rfl ?_
        have e1 : stp o f o.length = x.2 := by rw [show o.length = x.1 by omega]; exact hst
        have hneg : ¬ (x.2.1 = 0 ∨ (0 < q.v ∧ q.v < (after q x.2.1 x.2.2.1).x) ∨ noiseB q = true) := by
         rw [← hb1, show noiseB q = false from decide_eq_false (by rw [← ek]; exact hc17)]
         rintro (h | ⟨h1, h2⟩ | h)
         ·omega
         ·omega
         ·cases h
        have hv : askW q x.2.1 x.2.2.1 x.2.2.2 = _ := ask_y0 hneg (by omega)
        exact ⟨_, [_], rfl, ⟨by rw [plays, e1]; exact congrArg Value.bool hv.symm, by rw [askd, e1, ← hb1]⟩, hW.drop 1⟩
       ·intro hc20
        replace hc20 := of_decide_eq_false hc20
        refine yB ?_
        refine y_val (r_move (v := .pointer _) rfl rfl) (by kernel_rfl) rfl ?_
        refine y_val (r_nilCheck rfl rfl) (by kernel_rfl) rfl ?_
        refine y_loadP 1 tyA31 (by kernel_rfl) rfl rfl rfl rfl (by rw [List.length_append, boC_len]; omega) (boC_boxR _ _ _) (by decide) ?_
        refine y_loadA 0 tyA206 (by kernel_rfl) rfl rfl rfl rfl (by first | rfl | exact kc_len _ | exact kcf_len _ | exact boC_len _ _ | (simp; done)) (by decide) ?_
        refine y_call (g_plays b1 t x.2.1 x.2.2.1 x.2.2.2 (by omega) (by omega) (by omega) (by omega)) en130 (by kernel_rfl) rfl rfl rfl ?_
        refine yK ?_
        refine y_val (r_assign (v := .bool _) rfl rfl) rfl rfl ?_
        refine y_end ?_
        intro W hW
        refine n_then (c_ret ?_)
        refine ret_tmp (v := .bool _) rfl rfl ?_
        have e1 : stp o f o.length = x.2 := by rw [show o.length = x.1 by omega]; exact hst
        have hneg : ¬ (x.2.1 = 0 ∨ (0 < q.v ∧ q.v < (after q x.2.1 x.2.2.1).x) ∨ noiseB q = true) := by
         rw [← hb1, show noiseB q = false from decide_eq_false (by rw [← ek]; exact hc17)]
         rintro (h | ⟨h1, h2⟩ | h)
         ·omega
         ·omega
         ·cases h
        have hv : askW q x.2.1 x.2.2.1 x.2.2.2 = _ := (ask_w hneg (by omega)).trans (play_congr em ek).symm
        exact ⟨_, [_], rfl, ⟨by rw [plays, e1]; exact congrArg Value.bool hv.symm, by rw [askd, e1, ← hb1]⟩, hW.drop 1⟩
   ·intro hc7
    replace hc7 := of_decide_eq_false hc7
    refine kB ?_
    refine l_end ?_
    have hax := after_n (b := q) (r := x.2.1) (w := x.2.2.1) (by omega)
    obtain ⟨b1, hb1⟩ : ∃ b1, b1 = after q x.2.1 x.2.2.1 := ⟨_, rfl⟩
    have es : b1 = { q with a := q.a + 1 } := hb1.trans hax
    have ev : b1.v = q.v := by rw [es]
    have en : b1.n = q.n := by rw [es]
    have em : b1.m = q.m := by rw [es]
    have ek : b1.k = q.k := by rw [es]
    have ex : b1.x = q.x := by rw [es]
    rw [← es] at hW
    refine n_then ?_
    refine c_false rfl ?_
    refine c_skip (n_then (c_seq ?_))
    refine c_regY hW [] [.q, .q, .q, .q, .q, .q, .q, .q, .q, .q, .q, .q, .q, .q, .q, .q, .q] [0, 1, 3, 7, 15, 31, 63, 127, 255, 511, 63, 1087, 3135, 7231, 16383, 32767, 65535] (by kernel_rfl) (by kernel_rfl) ?_
    refine y_val (r_move (v := .pointer _) rfl rfl) rfl rfl ?_
    refine y_val (r_nilCheck rfl rfl) rfl rfl ?_
    refine y_val (r_fieldAddr 9 Tryz.underlying31 rfl tyC3.size rfl rfl rfl) rfl rfl ?_
    refine y_loadC 1 tyC3 rfl rfl rfl rfl rfl rfl (by decide) ?_
    refine y_val (r_gtr rfl rfl rfl rfl) rfl rfl ?_
    refine y_split ?_ ?_
    ·intro hc21
     replace hc21 := of_decide_eq_true hc21
     refine yB ?_
     refine y_val (r_move (v := .pointer _) rfl rfl) (by kernel_rfl) rfl ?_
     refine y_val (r_nilCheck rfl rfl) (by kernel_rfl) rfl ?_
     refine y_val (r_fieldAddr 27 Tryz.underlying31 rfl tyC3.size rfl rfl rfl) (by kernel_rfl) rfl ?_
     refine y_loadC 1 tyC3 (by kernel_rfl) rfl rfl rfl rfl rfl (by decide) ?_
     refine y_val (r_move (v := .pointer _) rfl rfl) (by kernel_rfl) rfl ?_
     refine y_val (r_nilCheck rfl rfl) (by kernel_rfl) rfl ?_
     refine y_val (r_fieldAddr 9 Tryz.underlying31 rfl tyC3.size rfl rfl rfl) (by kernel_rfl) rfl ?_
     refine y_loadC 1 tyC3 (by kernel_rfl) rfl rfl rfl rfl rfl (by decide) ?_
     refine y_val (r_gtr rfl rfl rfl rfl) (by kernel_rfl) rfl ?_
     refine y_split ?_ ?_
     ·intro hc22
      replace hc22 := of_decide_eq_true hc22
      refine yK ?_
      refine y_val (r_assign (v := .bool _) rfl rfl) rfl rfl ?_
      refine y_end ?_
      intro W hW
      refine n_then (c_seq ?_)
      refine c_regY hW [] [.q, .q, .q, .q, .q, .q, .q, .q, .q, .q, .q, .q, .q, .q, .q, .q, .q] [0, 1, 3, 7, 0, 0, 48, 112, 0, 256, 1023, 0, 0, 6144, 14336, 32767, 65535] (by kernel_rfl) (by kernel_rfl) ?_
      refine y_val (r_move (v := .pointer _) rfl rfl) rfl rfl ?_
      refine y_val (r_nilCheck rfl rfl) rfl rfl ?_
      refine y_val (r_fieldAddr 10 Tryz.underlying31 rfl tyA29.size rfl rfl rfl) rfl rfl ?_
      refine y_loadP 1 tyA29 (by kernel_rfl) rfl rfl rfl rfl (by rw [List.length_append, boC_len]; omega) (boC_keyR _ _ _) (by decide) ?_
      refine yI ?_
      refine yI ?_
      refine y_val (r_quoN (m := q.a.toNat) (n := q.n.toNat + 1) rfl (congrArg (Value.int .i64) ha) (congrArg (Value.int .i64) hb) (by omega) (by omega)) rfl rfl ?_
      refine y_val (r_conv_i64_u64 Tryz.underlying3 Tryz.underlying22 rfl rfl) rfl rfl ?_
      refine yI ?_
      refine y_val (r_conv_i64_u64 (n := q.n.toNat + 1) Tryz.underlying3 Tryz.underlying22 rfl (congrArg (Value.int .i64) hb)) rfl rfl ?_
      refine y_call (g_Number _ _ _) en129 rfl rfl rfl rfl ?_
      refine yI ?_
      refine yI ?_
      refine y_val (r_remN (m := q.a.toNat) (n := q.n.toNat + 1) rfl (congrArg (Value.int .i64) ha) (congrArg (Value.int .i64) hb) (by omega)) rfl rfl ?_
      refine y_val (r_conv_i64_u64 Tryz.underlying3 Tryz.underlying22 rfl rfl) rfl rfl ?_
      refine y_val (r_neqN rfl rfl rfl rfl) rfl rfl ?_
      refine y_split ?_ ?_
      ·intro hc23
       replace hc23 := of_decide_eq_true hc23
       refine y_val (r_assign (v := .bool _) rfl rfl) rfl rfl ?_
       refine y_end ?_
       intro W hW
       refine n_then (c_seq (c_seq (c_reg ?_)))
       refine l_val (r_fieldAddr 0 Tryz.underlying206 rfl tyC3.size rfl rfl rfl) rfl rfl ?_
       refine dC hW 0 tyC3 ?_
       refine l_val (r_eqlN (n := 0) rfl rfl rfl rfl) rfl rfl ?_
       refine l_split ?_ ?_
       ·intro hc24
        replace hc24 := of_decide_eq_true hc24
        refine aB ?_
        refine lN ?_
        refine kB ?_
        refine aB ?_
        refine lN ?_
        refine kB ?_
        refine l_end (n_then ?_)
        refine c_true rfl ?_
        refine c_seq (c_reg ?_)
        refine bB ?_
        refine l_end (n_then (c_ret (r_then ?_)))
        refine ret_tmp (v := .bool _) rfl rfl ?_
        have e1 : stp o f o.length = x.2 := by rw [show o.length = x.1 by omega]; exact hst
        have hv : askW q x.2.1 x.2.2.1 x.2.2.2 = _ := ask_no (by rw [← hb1]; omega)
        exact ⟨_, [_], rfl, ⟨by rw [plays, e1]; exact congrArg Value.bool hv.symm, by rw [askd, e1, ← hb1]⟩, hW.drop 1⟩
       ·intro hc24
        replace hc24 := of_decide_eq_false hc24
        refine aB ?_
        refine l_valG (r_move (v := .bool _) rfl rfl) (by kernel_rfl) rfl ?_
        refine kB ?_
        refine aB ?_
        refine lN ?_
        refine kB ?_
        refine l_end (n_then ?_)
        refine c_true rfl ?_
        refine c_seq (c_reg ?_)
        refine bB ?_
        refine l_end (n_then (c_ret (r_then ?_)))
        refine ret_tmp (v := .bool _) rfl rfl ?_
        have e1 : stp o f o.length = x.2 := by rw [show o.length = x.1 by omega]; exact hst
        have hv : askW q x.2.1 x.2.2.1 x.2.2.2 = _ := ask_no (by rw [← hb1]; omega)
        exact ⟨_, [_], rfl, ⟨by rw [plays, e1]; exact congrArg Value.bool hv.symm, by rw [askd, e1, ← hb1]⟩, hW.drop 1⟩
      ·intro hc23
       replace hc23 := of_decide_eq_false hc23
       refine y_val (r_assign (v := .bool _) rfl rfl) rfl rfl ?_
       refine y_end ?_
       intro W hW
       refine n_then (c_seq (c_seq (c_reg ?_)))
       refine l_val (r_fieldAddr 0 Tryz.underlying206 rfl tyC3.size rfl rfl rfl) rfl rfl ?_
       refine dC hW 0 tyC3 ?_
       refine l_val (r_eqlN (n := 0) rfl rfl rfl rfl) rfl rfl ?_
       refine l_split ?_ ?_
       ·intro hc25
        replace hc25 := of_decide_eq_true hc25
        refine aB ?_
        refine lN ?_
        refine kB ?_
        refine aB ?_
        refine lN ?_
        refine kB ?_
        refine l_end (n_then ?_)
        refine c_true rfl ?_
        refine c_seq (c_reg ?_)
        refine bB ?_
        refine l_end (n_then (c_ret (r_then ?_)))
        refine ret_tmp (v := .bool _) rfl rfl ?_
        have e1 : stp o f o.length = x.2 := by rw [show o.length = x.1 by omega]; exact hst
        have hv : askW q x.2.1 x.2.2.1 x.2.2.2 = _ := ask_no (by rw [← hb1]; omega)
        exact ⟨_, [_], rfl, ⟨by rw [plays, e1]; exact congrArg Value.bool hv.symm, by rw [askd, e1, ← hb1]⟩, hW.drop 1⟩
       ·intro hc25
        replace hc25 := of_decide_eq_false hc25
        refine aB ?_
        refine l_valG (r_move (v := .bool _) rfl rfl) (by kernel_rfl) rfl ?_
        refine kB ?_
        refine aB ?_
        refine lN ?_
        refine kB ?_
        refine l_end (n_then ?_)
        refine c_true rfl ?_
        refine c_seq (c_reg ?_)
        refine bB ?_
        refine l_end (n_then (c_ret (r_then ?_)))
        refine ret_tmp (v := .bool _) rfl rfl ?_
        have e1 : stp o f o.length = x.2 := by rw [show o.length = x.1 by omega]; exact hst
        have hv : askW q x.2.1 x.2.2.1 x.2.2.2 = _ := ask_no (by rw [← hb1]; omega)
        exact ⟨_, [_], rfl, ⟨by rw [plays, e1]; exact congrArg Value.bool hv.symm, by rw [askd, e1, ← hb1]⟩, hW.drop 1⟩
     ·intro hc22
      replace hc22 := of_decide_eq_false hc22
      refine yK ?_
      refine y_val (r_assign (v := .bool _) rfl rfl) rfl rfl ?_
      refine y_end ?_
      intro W hW
      refine n_then (c_seq ?_)
      refine c_regY hW [] [.q, .q, .q, .q, .q, .q, .q, .q, .q, .q, .q, .q, .q, .q, .q, .q, .q] [0, 1, 3, 7, 0, 0, 48, 112, 0, 256, 1023, 0, 0, 6144, 14336, 32767, 65535] (by kernel_rfl) (by kernel_rfl) ?_
      refine y_val (r_move (v := .pointer _) rfl rfl) rfl rfl ?_
      refine y_val (r_nilCheck rfl rfl) rfl rfl ?_
      refine y_val (r_fieldAddr 10 Tryz.underlying31 rfl tyA29.size rfl rfl rfl) rfl rfl ?_
      refine y_loadP 1 tyA29 (by kernel_rfl) rfl rfl rfl rfl (by rw [List.length_append, boC_len]; omega) (boC_keyR _ _ _) (by decide) ?_
      refine yI ?_
      refine yI ?_
      refine y_val (r_quoN (m := q.a.toNat) (n := q.n.toNat + 1) rfl (congrArg (Value.int .i64) ha) (congrArg (Value.int .i64) hb) (by omega) (by omega)) rfl rfl ?_
      refine y_val (r_conv_i64_u64 Tryz.underlying3 Tryz.underlying22 rfl rfl) rfl rfl ?_
      refine yI ?_
      refine y_val (r_conv_i64_u64 (n := q.n.toNat + 1) Tryz.underlying3 Tryz.underlying22 rfl (congrArg (Value.int .i64) hb)) rfl rfl ?_
      refine y_call (g_Number _ _ _) en129 rfl rfl rfl rfl ?_
      refine yI ?_
      refine yI ?_
      refine y_val (r_remN (m := q.a.toNat) (n := q.n.toNat + 1) rfl (congrArg (Value.int .i64) ha) (congrArg (Value.int .i64) hb) (by omega)) rfl rfl ?_
      refine y_val (r_conv_i64_u64 Tryz.underlying3 Tryz.underlying22 rfl rfl) rfl rfl ?_
      refine y_val (r_neqN rfl rfl rfl rfl) rfl rfl ?_
      refine y_split ?_ ?_
      ·intro hc26
       replace hc26 := of_decide_eq_true hc26
       refine y_val (r_assign (v := .bool _) rfl rfl) rfl rfl ?_
       refine y_end ?_
       intro W hW
       refine n_then (c_seq (c_seq (c_reg ?_)))
       refine l_val (r_fieldAddr 0 Tryz.underlying206 rfl tyC3.size rfl rfl rfl) rfl rfl ?_
       refine dC hW 0 tyC3 ?_
       refine l_val (r_eqlN (n := 0) rfl rfl rfl rfl) rfl rfl ?_
       refine l_split ?_ ?_
       ·intro hc27
        replace hc27 := of_decide_eq_true hc27
        refine aB ?_
        refine lN ?_
        refine kB ?_
        refine aB ?_
        refine lN ?_
        refine kB ?_
        refine l_end (n_then ?_)
        refine c_true rfl ?_
        refine c_seq (c_reg ?_)
        refine bB ?_
        refine l_end (n_then (c_ret (r_then ?_)))
        refine ret_tmp (v := .bool _) rfl rfl ?_
        have e1 : stp o f o.length = x.2 := by rw [show o.length = x.1 by omega]; exact hst
        have hv : askW q x.2.1 x.2.2.1 x.2.2.2 = _ := ask_no (by rw [← hb1]; omega)
        exact ⟨_, [_], rfl, ⟨by rw [plays, e1]; exact congrArg Value.bool hv.symm, by rw [askd, e1, ← hb1]⟩, hW.drop 1⟩
       ·intro hc27
        replace hc27 := of_decide_eq_false hc27
        refine aB ?_
        refine l_valG (r_move (v := .bool _) rfl rfl) (by kernel_rfl) rfl ?_
        refine kB ?_
        refine aB ?_
        refine l_valG (r_move (v := .bool _) rfl rfl) (by kernel_rfl) rfl ?_
        refine kB ?_
        refine l_end (n_then ?_)
        refine c_true rfl ?_
        refine c_seq (c_reg ?_)
        refine bB ?_
        refine l_end (n_then (c_ret (r_then ?_)))
        refine ret_tmp (v := .bool _) rfl rfl ?_
        have e1 : stp o f o.length = x.2 := by rw [show o.length = x.1 by omega]; exact hst
        have hv : askW q x.2.1 x.2.2.1 x.2.2.2 = _ := ask_no (.inr (.inr (decide_eq_true (by rw [← ek]; exact hc26))))
        exact ⟨_, [_], rfl, ⟨by rw [plays, e1]; exact congrArg Value.bool hv.symm, by rw [askd, e1, ← hb1]⟩, hW.drop 1⟩
      ·intro hc26
       replace hc26 := of_decide_eq_false hc26
       refine y_val (r_assign (v := .bool _) rfl rfl) rfl rfl ?_
       refine y_end ?_
       intro W hW
       refine n_then (c_seq (c_seq (c_reg ?_)))
       refine l_val (r_fieldAddr 0 Tryz.underlying206 rfl tyC3.size rfl rfl rfl) rfl rfl ?_
       refine dC hW 0 tyC3 ?_
       refine l_val (r_eqlN (n := 0) rfl rfl rfl rfl) rfl rfl ?_
       refine l_split ?_ ?_
       ·intro hc28
        replace hc28 := of_decide_eq_true hc28
        refine aB ?_
        refine lN ?_
        refine kB ?_
        refine aB ?_
        refine lN ?_
        refine kB ?_
        refine l_end (n_then ?_)
        refine c_true rfl ?_
        refine c_seq (c_reg ?_)
        refine bB ?_
        refine l_end (n_then (c_ret (r_then ?_)))
        refine ret_tmp (v := .bool _) rfl rfl ?_
        have e1 : stp o f o.length = x.2 := by rw [show o.length = x.1 by omega]; exact hst
        have hv : askW q x.2.1 x.2.2.1 x.2.2.2 = _ := ask_no (by rw [← hb1]; omega)
        exact ⟨_, [_], rfl, ⟨by rw [plays, e1]; exact congrArg Value.bool hv.symm, by rw [askd, e1, ← hb1]⟩, hW.drop 1⟩
       ·intro hc28
        replace hc28 := of_decide_eq_false hc28
        refine aB ?_
        refine l_valG (r_move (v := .bool _) rfl rfl) (by kernel_rfl) rfl ?_
        refine kB ?_
        refine aB ?_
        refine l_valG (r_move (v := .bool _) rfl rfl) (by kernel_rfl) rfl ?_
        refine kB ?_
        refine l_end (n_then ?_)
        refine c_false rfl ?_
        refine c_skip (n_then (c_seq ?_))
        refine c_regY hW [] [.q, .q, .q, .q, .q, .q, .q, .q, .q, .q, .q] [0, 1, 3, 7, 15, 31, 63, 15, 255, 511, 1023] (by kernel_rfl) (by kernel_rfl) ?_
        refine y_val (r_fieldAddr 1 Tryz.underlying206 rfl tyC3.size rfl rfl rfl) rfl rfl ?_
        refine y_loadC 0 tyC3 rfl rfl rfl rfl rfl rfl (by decide) ?_
        refine y_val (r_eqlN (n := 0) rfl rfl rfl rfl) rfl rfl ?_
        refine y_split ?_ ?_
        ·intro hc29
         replace hc29 := of_decide_eq_true hc29
         refine yB ?_
         refine yN ?_
         refine yN ?_
         refine yN ?_
         refine yN ?_
         refine yN ?_
         refine yK ?_
         refine y_val (r_assign (v := .bool _) rfl rfl) rfl rfl ?_
         refine y_end ?_
         intro W hW
         refine n_then (c_ret ?_)
         refine ret_tmp (v := .bool _) rfl rfl ?_
         have e1 : stp o f o.length = x.2 := by rw [show o.length = x.1 by omega]; exact hst
         have hneg : ¬ (x.2.1 = 0 ∨ (0 < q.v ∧ q.v < (after q x.2.1 x.2.2.1).x) ∨ noiseB q = true) := by
          rw [← hb1, show noiseB q = false from decide_eq_false (by rw [← ek]; exact hc26)]
          rintro (h | ⟨h1, h2⟩ | h)
          ·omega
          ·omega
          ·cases h
         have hv : askW q x.2.1 x.2.2.1 x.2.2.2 = _ := ask_y0 hneg (by omega)
         exact ⟨_, [_], rfl, ⟨by rw [plays, e1]; exact congrArg Value.bool hv.symm, by rw [askd, e1, ← hb1]⟩, hW.drop 1⟩
        ·intro hc29
         replace hc29 := of_decide_eq_false hc29
         refine yB ?_
         refine y_val (r_move (v := .pointer _) rfl rfl) (by kernel_rfl) rfl ?_
         refine y_val (r_nilCheck rfl rfl) (by kernel_rfl) rfl ?_
         refine y_loadP 1 tyA31 (by kernel_rfl) rfl rfl rfl rfl (by rw [List.length_append, boC_len]; omega) (boC_boxR _ _ _) (by decide) ?_
         refine y_loadA 0 tyA206 (by kernel_rfl) rfl rfl rfl rfl (by first | rfl | exact kc_len _ | exact kcf_len _ | exact boC_len _ _ | (simp; done)) (by decide) ?_
         refine y_call (g_plays b1 t x.2.1 x.2.2.1 x.2.2.2 (by omega) (by omega) (by omega) (by omega)) en130 (by kernel_rfl) rfl rfl rfl ?_
         refine yK ?_
         refine y_val (r_assign (v := .bool _) rfl rfl) rfl rfl ?_
         refine y_end ?_
         intro W hW
         refine n_then (c_ret ?_)
         refine ret_tmp (v := .bool _) rfl rfl ?_
         have e1 : stp o f o.length = x.2 := by rw [show o.length = x.1 by omega]; exact hst
         have hneg : ¬ (x.2.1 = 0 ∨ (0 < q.v ∧ q.v < (after q x.2.1 x.2.2.1).x) ∨ noiseB q = true) := by
          rw [← hb1, show noiseB q = false from decide_eq_false (by rw [← ek]; exact hc26)]
          rintro (h | ⟨h1, h2⟩ | h)
          ·omega
          ·omega
          ·cases h
         have hv : askW q x.2.1 x.2.2.1 x.2.2.2 = _ := (ask_w hneg (by omega)).trans (play_congr em ek).symm
         exact ⟨_, [_], rfl, ⟨by rw [plays, e1]; exact congrArg Value.bool hv.symm, by rw [askd, e1, ← hb1]⟩, hW.drop 1⟩
    ·intro hc21
     replace hc21 := of_decide_eq_false hc21
     refine yB ?_
     refine yN ?_
     refine yN ?_
     refine yN ?_
     refine yN ?_
     refine yN ?_
     refine yN ?_
     refine yN ?_
     refine yN ?_
     refine yN ?_
     refine yK ?_
     refine y_val (r_assign (v := .bool _) rfl rfl) rfl rfl ?_
     refine y_end ?_
     intro W hW
     refine n_then (c_seq ?_)
     refine c_regY hW [] [.q, .q, .q, .q, .q, .q, .q, .q, .q, .q, .q, .q, .q, .q, .q, .q, .q] [0, 1, 3, 7, 0, 0, 48, 112, 0, 256, 1023, 0, 0, 6144, 14336, 32767, 65535] (by kernel_rfl) (by kernel_rfl) ?_
     refine y_val (r_move (v := .pointer _) rfl rfl) rfl rfl ?_
     refine y_val (r_nilCheck rfl rfl) rfl rfl ?_
     refine y_val (r_fieldAddr 10 Tryz.underlying31 rfl tyA29.size rfl rfl rfl) rfl rfl ?_
     refine y_loadP 1 tyA29 (by kernel_rfl) rfl rfl rfl rfl (by rw [List.length_append, boC_len]; omega) (boC_keyR _ _ _) (by decide) ?_
     refine yI ?_
     refine yI ?_
     refine y_val (r_quoN (m := q.a.toNat) (n := q.n.toNat + 1) rfl (congrArg (Value.int .i64) ha) (congrArg (Value.int .i64) hb) (by omega) (by omega)) rfl rfl ?_
     refine y_val (r_conv_i64_u64 Tryz.underlying3 Tryz.underlying22 rfl rfl) rfl rfl ?_
     refine yI ?_
     refine y_val (r_conv_i64_u64 (n := q.n.toNat + 1) Tryz.underlying3 Tryz.underlying22 rfl (congrArg (Value.int .i64) hb)) rfl rfl ?_
     refine y_call (g_Number _ _ _) en129 rfl rfl rfl rfl ?_
     refine yI ?_
     refine yI ?_
     refine y_val (r_remN (m := q.a.toNat) (n := q.n.toNat + 1) rfl (congrArg (Value.int .i64) ha) (congrArg (Value.int .i64) hb) (by omega)) rfl rfl ?_
     refine y_val (r_conv_i64_u64 Tryz.underlying3 Tryz.underlying22 rfl rfl) rfl rfl ?_
     refine y_val (r_neqN rfl rfl rfl rfl) rfl rfl ?_
     refine y_split ?_ ?_
     ·intro hc30
      replace hc30 := of_decide_eq_true hc30
      refine y_val (r_assign (v := .bool _) rfl rfl) rfl rfl ?_
      refine y_end ?_
      intro W hW
      refine n_then (c_seq (c_seq (c_reg ?_)))
      refine l_val (r_fieldAddr 0 Tryz.underlying206 rfl tyC3.size rfl rfl rfl) rfl rfl ?_
      refine dC hW 0 tyC3 ?_
      refine l_val (r_eqlN (n := 0) rfl rfl rfl rfl) rfl rfl ?_
      refine l_split ?_ ?_
      ·intro hc31
       replace hc31 := of_decide_eq_true hc31
       refine aB ?_
       refine lN ?_
       refine kB ?_
       refine aB ?_
       refine lN ?_
       refine kB ?_
       refine l_end (n_then ?_)
       refine c_true rfl ?_
       refine c_seq (c_reg ?_)
       refine bB ?_
       refine l_end (n_then (c_ret (r_then ?_)))
       refine ret_tmp (v := .bool _) rfl rfl ?_
       have e1 : stp o f o.length = x.2 := by rw [show o.length = x.1 by omega]; exact hst
       have hv : askW q x.2.1 x.2.2.1 x.2.2.2 = _ := ask_no (by rw [← hb1]; omega)
       exact ⟨_, [_], rfl, ⟨by rw [plays, e1]; exact congrArg Value.bool hv.symm, by rw [askd, e1, ← hb1]⟩, hW.drop 1⟩
      ·intro hc31
       replace hc31 := of_decide_eq_false hc31
       refine aB ?_
       refine l_valG (r_move (v := .bool _) rfl rfl) (by kernel_rfl) rfl ?_
       refine kB ?_
       refine aB ?_
       refine l_valG (r_move (v := .bool _) rfl rfl) (by kernel_rfl) rfl ?_
       refine kB ?_
       refine l_end (n_then ?_)
       refine c_true rfl ?_
       refine c_seq (c_reg ?_)
       refine bB ?_
       refine l_end (n_then (c_ret (r_then ?_)))
       refine ret_tmp (v := .bool _) rfl rfl ?_
       have e1 : stp o f o.length = x.2 := by rw [show o.length = x.1 by omega]; exact hst
       have hv : askW q x.2.1 x.2.2.1 x.2.2.2 = _ := ask_no (.inr (.inr (decide_eq_true (by rw [← ek]; exact hc30))))
       exact ⟨_, [_], rfl, ⟨by rw [plays, e1]; exact congrArg Value.bool hv.symm, by rw [askd, e1, ← hb1]⟩, hW.drop 1⟩
     ·intro hc30
      replace hc30 := of_decide_eq_false hc30
      refine y_val (r_assign (v := .bool _) rfl rfl) rfl rfl ?_
      refine y_end ?_
      intro W hW
      refine n_then (c_seq (c_seq (c_reg ?_)))
      refine l_val (r_fieldAddr 0 Tryz.underlying206 rfl tyC3.size rfl rfl rfl) rfl rfl ?_
      refine dC hW 0 tyC3 ?_
      refine l_val (r_eqlN (n := 0) rfl rfl rfl rfl) rfl rfl ?_
      refine l_split ?_ ?_
      ·intro hc32
       replace hc32 := of_decide_eq_true hc32
       refine aB ?_
       refine lN ?_
       refine kB ?_
       refine aB ?_
       refine lN ?_
       refine kB ?_
       refine l_end (n_then ?_)
       refine c_true rfl ?_
       refine c_seq (c_reg ?_)
       refine bB ?_
       refine l_end (n_then (c_ret (r_then ?_)))
       refine ret_tmp (v := .bool _) rfl rfl ?_
       have e1 : stp o f o.length = x.2 := by rw [show o.length = x.1 by omega]; exact hst
       have hv : askW q x.2.1 x.2.2.1 x.2.2.2 = _ := ask_no (by rw [← hb1]; omega)
       exact ⟨_, [_], rfl, ⟨by rw [plays, e1]; exact congrArg Value.bool hv.symm, by rw [askd, e1, ← hb1]⟩, hW.drop 1⟩
      ·intro hc32
       replace hc32 := of_decide_eq_false hc32
       refine aB ?_
       refine l_valG (r_move (v := .bool _) rfl rfl) (by kernel_rfl) rfl ?_
       refine kB ?_
       refine aB ?_
       refine l_valG (r_move (v := .bool _) rfl rfl) (by kernel_rfl) rfl ?_
       refine kB ?_
       refine l_end (n_then ?_)
       refine c_false rfl ?_
       refine c_skip (n_then (c_seq ?_))
       refine c_regY hW [] [.q, .q, .q, .q, .q, .q, .q, .q, .q, .q, .q] [0, 1, 3, 7, 15, 31, 63, 15, 255, 511, 1023] (by kernel_rfl) (by kernel_rfl) ?_
       refine y_val (r_fieldAddr 1 Tryz.underlying206 rfl tyC3.size rfl rfl rfl) rfl rfl ?_
       refine y_loadC 0 tyC3 rfl rfl rfl rfl rfl rfl (by decide) ?_
       refine y_val (r_eqlN (n := 0) rfl rfl rfl rfl) rfl rfl ?_
       refine y_split ?_ ?_
       ·intro hc33
        replace hc33 := of_decide_eq_true hc33
        refine yB ?_
        refine yN ?_
        refine yN ?_
        refine yN ?_
        refine yN ?_
        refine yN ?_
        refine yK ?_
        refine y_val (r_assign (v := .bool _) rfl rfl) rfl rfl ?_
        refine y_end ?_
        intro W hW
        refine n_then (c_ret ?_)
        refine ret_tmp (v := .bool _) rfl rfl ?_
        have e1 : stp o f o.length = x.2 := by rw [show o.length = x.1 by omega]; exact hst
        have hneg : ¬ (x.2.1 = 0 ∨ (0 < q.v ∧ q.v < (after q x.2.1 x.2.2.1).x) ∨ noiseB q = true) := by
         rw [← hb1, show noiseB q = false from decide_eq_false (by rw [← ek]; exact hc30)]
         rintro (h | ⟨h1, h2⟩ | h)
         ·omega
         ·omega
         ·cases h
        have hv : askW q x.2.1 x.2.2.1 x.2.2.2 = _ := ask_y0 hneg (by omega)
        exact ⟨_, [_], rfl, ⟨by rw [plays, e1]; exact congrArg Value.bool hv.symm, by rw [askd, e1, ← hb1]⟩, hW.drop 1⟩
       ·intro hc33
        replace hc33 := of_decide_eq_false hc33
        refine yB ?_
        refine y_val (r_move (v := .pointer _) rfl rfl) (by kernel_rfl) rfl ?_
        refine y_val (r_nilCheck rfl rfl) (by kernel_rfl) rfl ?_
        refine y_loadP 1 tyA31 (by kernel_rfl) rfl rfl rfl rfl (by rw [List.length_append, boC_len]; omega) (boC_boxR _ _ _) (by decide) ?_
        refine y_loadA 0 tyA206 (by kernel_rfl) rfl rfl rfl rfl (by first | rfl | exact kc_len _ | exact kcf_len _ | exact boC_len _ _ | (simp; done)) (by decide) ?_
        refine y_call (g_plays b1 t x.2.1 x.2.2.1 x.2.2.2 (by omega) (by omega) (by omega) (by omega)) en130 (by kernel_rfl) rfl rfl rfl ?_
        refine yK ?_
        refine y_val (r_assign (v := .bool _) rfl rfl) rfl rfl ?_
        refine y_end ?_
        intro W hW
        refine n_then (c_ret ?_)
        refine ret_tmp (v := .bool _) rfl rfl ?_
        have e1 : stp o f o.length = x.2 := by rw [show o.length = x.1 by omega]; exact hst
        have hneg : ¬ (x.2.1 = 0 ∨ (0 < q.v ∧ q.v < (after q x.2.1 x.2.2.1).x) ∨ noiseB q = true) := by
         rw [← hb1, show noiseB q = false from decide_eq_false (by rw [← ek]; exact hc30)]
         rintro (h | ⟨h1, h2⟩ | h)
         ·omega
         ·omega
         ·cases h
        have hv : askW q x.2.1 x.2.2.1 x.2.2.2 = _ := (ask_w hneg (by omega)).trans (play_congr em ek).symm
        exact ⟨_, [_], rfl, ⟨by rw [plays, e1]; exact congrArg Value.bool hv.symm, by rw [askd, e1, ← hb1]⟩, hW.drop 1⟩
  ·intro hc6
   replace hc6 := of_decide_eq_false hc6
   refine aB ?_
   refine lN ?_
   refine lN ?_
   refine lN ?_
   refine kB ?_
   refine l_end ?_
   have hax := after_n (b := q) (r := x.2.1) (w := x.2.2.1) (by omega)
   obtain ⟨b1, hb1⟩ : ∃ b1, b1 = after q x.2.1 x.2.2.1 := ⟨_, rfl⟩
   have es : b1 = { q with a := q.a + 1 } := hb1.trans hax
   have ev : b1.v = q.v := by rw [es]
   have en : b1.n = q.n := by rw [es]
   have em : b1.m = q.m := by rw [es]
   have ek : b1.k = q.k := by rw [es]
   have ex : b1.x = q.x := by rw [es]
   rw [← es] at hW
   refine n_then ?_
   refine c_false rfl ?_
   refine c_skip (n_then (c_seq ?_))
   refine c_regY hW [] [.q, .q, .q, .q, .q, .q, .q, .q, .q, .q, .q, .q, .q, .q, .q, .q, .q] [0, 1, 3, 7, 15, 31, 63, 127, 255, 511, 63, 1087, 3135, 7231, 16383, 32767, 65535] (by kernel_rfl) (by kernel_rfl) ?_
   refine y_val (r_move (v := .pointer _) rfl rfl) rfl rfl ?_
   refine y_val (r_nilCheck rfl rfl) rfl rfl ?_
   refine y_val (r_fieldAddr 9 Tryz.underlying31 rfl tyC3.size rfl rfl rfl) rfl rfl ?_
   refine y_loadC 1 tyC3 rfl rfl rfl rfl rfl rfl (by decide) ?_
   refine y_val (r_gtr rfl rfl rfl rfl) rfl rfl ?_
   refine y_split ?_ ?_
   ·intro hc34
    replace hc34 := of_decide_eq_true hc34
    refine yB ?_
    refine y_val (r_move (v := .pointer _) rfl rfl) (by kernel_rfl) rfl ?_
    refine y_val (r_nilCheck rfl rfl) (by kernel_rfl) rfl ?_
    refine y_val (r_fieldAddr 27 Tryz.underlying31 rfl tyC3.size rfl rfl rfl) (by kernel_rfl) rfl ?_
    refine y_loadC 1 tyC3 (by kernel_rfl) rfl rfl rfl rfl rfl (by decide) ?_
    refine y_val (r_move (v := .pointer _) rfl rfl) (by kernel_rfl) rfl ?_
    refine y_val (r_nilCheck rfl rfl) (by kernel_rfl) rfl ?_
    refine y_val (r_fieldAddr 9 Tryz.underlying31 rfl tyC3.size rfl rfl rfl) (by kernel_rfl) rfl ?_
    refine y_loadC 1 tyC3 (by kernel_rfl) rfl rfl rfl rfl rfl (by decide) ?_
    refine y_val (r_gtr rfl rfl rfl rfl) (by kernel_rfl) rfl ?_
    refine y_split ?_ ?_
    ·intro hc35
     replace hc35 := of_decide_eq_true hc35
     refine yK ?_
     refine y_val (r_assign (v := .bool _) rfl rfl) rfl rfl ?_
     refine y_end ?_
     intro W hW
     refine n_then (c_seq ?_)
     refine c_regY hW [] [.q, .q, .q, .q, .q, .q, .q, .q, .q, .q, .q, .q, .q, .q, .q, .q, .q] [0, 1, 3, 7, 0, 0, 48, 112, 0, 256, 1023, 0, 0, 6144, 14336, 32767, 65535] (by kernel_rfl) (by kernel_rfl) ?_
     refine y_val (r_move (v := .pointer _) rfl rfl) rfl rfl ?_
     refine y_val (r_nilCheck rfl rfl) rfl rfl ?_
     refine y_val (r_fieldAddr 10 Tryz.underlying31 rfl tyA29.size rfl rfl rfl) rfl rfl ?_
     refine y_loadP 1 tyA29 (by kernel_rfl) rfl rfl rfl rfl (by rw [List.length_append, boC_len]; omega) (boC_keyR _ _ _) (by decide) ?_
     refine yI ?_
     refine yI ?_
     refine y_val (r_quoN (m := q.a.toNat) (n := q.n.toNat + 1) rfl (congrArg (Value.int .i64) ha) (congrArg (Value.int .i64) hb) (by omega) (by omega)) rfl rfl ?_
     refine y_val (r_conv_i64_u64 Tryz.underlying3 Tryz.underlying22 rfl rfl) rfl rfl ?_
     refine yI ?_
     refine y_val (r_conv_i64_u64 (n := q.n.toNat + 1) Tryz.underlying3 Tryz.underlying22 rfl (congrArg (Value.int .i64) hb)) rfl rfl ?_
     refine y_call (g_Number _ _ _) en129 rfl rfl rfl rfl ?_
     refine yI ?_
     refine yI ?_
     refine y_val (r_remN (m := q.a.toNat) (n := q.n.toNat + 1) rfl (congrArg (Value.int .i64) ha) (congrArg (Value.int .i64) hb) (by omega)) rfl rfl ?_
     refine y_val (r_conv_i64_u64 Tryz.underlying3 Tryz.underlying22 rfl rfl) rfl rfl ?_
     refine y_val (r_neqN rfl rfl rfl rfl) rfl rfl ?_
     refine y_split ?_ ?_
     ·intro hc36
      replace hc36 := of_decide_eq_true hc36
      refine y_val (r_assign (v := .bool _) rfl rfl) rfl rfl ?_
      refine y_end ?_
      intro W hW
      refine n_then (c_seq (c_seq (c_reg ?_)))
      refine l_val (r_fieldAddr 0 Tryz.underlying206 rfl tyC3.size rfl rfl rfl) rfl rfl ?_
      refine dC hW 0 tyC3 ?_
      refine l_val (r_eqlN (n := 0) rfl rfl rfl rfl) rfl rfl ?_
      refine l_split ?_ ?_
      ·intro hc37
       replace hc37 := of_decide_eq_true hc37
       refine aB ?_
       refine lN ?_
       refine kB ?_
       refine aB ?_
       refine lN ?_
       refine kB ?_
       refine l_end (n_then ?_)
       refine c_true rfl ?_
       refine c_seq (c_reg ?_)
       refine bB ?_
       refine l_end (n_then (c_ret (r_then ?_)))
       refine ret_tmp (v := .bool _) rfl rfl ?_
       have e1 : stp o f o.length = x.2 := by rw [show o.length = x.1 by omega]; exact hst
       have hv : askW q x.2.1 x.2.2.1 x.2.2.2 = _ := ask_no (by rw [← hb1]; omega)
       exact ⟨_, [_], rfl, ⟨by rw [plays, e1]; exact congrArg Value.bool hv.symm, by rw [askd, e1, ← hb1]⟩, hW.drop 1⟩
      ·intro hc37
       replace hc37 := of_decide_eq_false hc37
       refine aB ?_
       refine l_valG (r_move (v := .bool _) rfl rfl) (by kernel_rfl) rfl ?_
       refine kB ?_
       refine aB ?_
       refine lN ?_
       refine kB ?_
       refine l_end (n_then ?_)
       refine c_true rfl ?_
       refine c_seq (c_reg ?_)
       refine bB ?_
       refine l_end (n_then (c_ret (r_then ?_)))
       refine ret_tmp (v := .bool _) rfl rfl ?_
       have e1 : stp o f o.length = x.2 := by rw [show o.length = x.1 by omega]; exact hst
       have hv : askW q x.2.1 x.2.2.1 x.2.2.2 = _ := ask_no (by rw [← hb1]; omega)
       exact ⟨_, [_], rfl, ⟨by rw [plays, e1]; exact congrArg Value.bool hv.symm, by rw [askd, e1, ← hb1]⟩, hW.drop 1⟩
     ·intro hc36
      replace hc36 := of_decide_eq_false hc36
      refine y_val (r_assign (v := .bool _) rfl rfl) rfl rfl ?_
      refine y_end ?_
      intro W hW
      refine n_then (c_seq (c_seq (c_reg ?_)))
      refine l_val (r_fieldAddr 0 Tryz.underlying206 rfl tyC3.size rfl rfl rfl) rfl rfl ?_
      refine dC hW 0 tyC3 ?_
      refine l_val (r_eqlN (n := 0) rfl rfl rfl rfl) rfl rfl ?_
      refine l_split ?_ ?_
      ·intro hc38
       replace hc38 := of_decide_eq_true hc38
       refine aB ?_
       refine lN ?_
       refine kB ?_
       refine aB ?_
       refine lN ?_
       refine kB ?_
       refine l_end (n_then ?_)
       refine c_true rfl ?_
       refine c_seq (c_reg ?_)
       refine bB ?_
       refine l_end (n_then (c_ret (r_then ?_)))
       refine ret_tmp (v := .bool _) rfl rfl ?_
       have e1 : stp o f o.length = x.2 := by rw [show o.length = x.1 by omega]; exact hst
       have hv : askW q x.2.1 x.2.2.1 x.2.2.2 = _ := ask_no (by rw [← hb1]; omega)
       exact ⟨_, [_], rfl, ⟨by rw [plays, e1]; exact congrArg Value.bool hv.symm, by rw [askd, e1, ← hb1]⟩, hW.drop 1⟩
      ·intro hc38
       replace hc38 := of_decide_eq_false hc38
       refine aB ?_
       refine l_valG (r_move (v := .bool _) rfl rfl) (by kernel_rfl) rfl ?_
       refine kB ?_
       refine aB ?_
       refine lN ?_
       refine kB ?_
       refine l_end (n_then ?_)
       refine c_true rfl ?_
       refine c_seq (c_reg ?_)
       refine bB ?_
       refine l_end (n_then (c_ret (r_then ?_)))
       refine ret_tmp (v := .bool _) rfl rfl ?_
       have e1 : stp o f o.length = x.2 := by rw [show o.length = x.1 by omega]; exact hst
       have hv : askW q x.2.1 x.2.2.1 x.2.2.2 = _ := ask_no (by rw [← hb1]; omega)
       exact ⟨_, [_], rfl, ⟨by rw [plays, e1]; exact congrArg Value.bool hv.symm, by rw [askd, e1, ← hb1]⟩, hW.drop 1⟩
    ·intro hc35
     replace hc35 := of_decide_eq_false hc35
     refine yK ?_
     refine y_val (r_assign (v := .bool _) rfl rfl) rfl rfl ?_
     refine y_end ?_
     intro W hW
     refine n_then (c_seq ?_)
     refine c_regY hW [] [.q, .q, .q, .q, .q, .q, .q, .q, .q, .q, .q, .q, .q, .q, .q, .q, .q] [0, 1, 3, 7, 0, 0, 48, 112, 0, 256, 1023, 0, 0, 6144, 14336, 32767, 65535] (by kernel_rfl) (by kernel_rfl) ?_
     refine y_val (r_move (v := .pointer _) rfl rfl) rfl rfl ?_
     refine y_val (r_nilCheck rfl rfl) rfl rfl ?_
     refine y_val (r_fieldAddr 10 Tryz.underlying31 rfl tyA29.size rfl rfl rfl) rfl rfl ?_
     refine y_loadP 1 tyA29 (by kernel_rfl) rfl rfl rfl rfl (by rw [List.length_append, boC_len]; omega) (boC_keyR _ _ _) (by decide) ?_
     refine yI ?_
     refine yI ?_
     refine y_val (r_quoN (m := q.a.toNat) (n := q.n.toNat + 1) rfl (congrArg (Value.int .i64) ha) (congrArg (Value.int .i64) hb) (by omega) (by omega)) rfl rfl ?_
     refine y_val (r_conv_i64_u64 Tryz.underlying3 Tryz.underlying22 rfl rfl) rfl rfl ?_
     refine yI ?_
     refine y_val (r_conv_i64_u64 (n := q.n.toNat + 1) Tryz.underlying3 Tryz.underlying22 rfl (congrArg (Value.int .i64) hb)) rfl rfl ?_
     refine y_call (g_Number _ _ _) en129 rfl rfl rfl rfl ?_
     refine yI ?_
     refine yI ?_
     refine y_val (r_remN (m := q.a.toNat) (n := q.n.toNat + 1) rfl (congrArg (Value.int .i64) ha) (congrArg (Value.int .i64) hb) (by omega)) rfl rfl ?_
     refine y_val (r_conv_i64_u64 Tryz.underlying3 Tryz.underlying22 rfl rfl) rfl rfl ?_
     refine y_val (r_neqN rfl rfl rfl rfl) rfl rfl ?_
     refine y_split ?_ ?_
     ·intro hc39
      replace hc39 := of_decide_eq_true hc39
      refine y_val (r_assign (v := .bool _) rfl rfl) rfl rfl ?_
      refine y_end ?_
      intro W hW
      refine n_then (c_seq (c_seq (c_reg ?_)))
      refine l_val (r_fieldAddr 0 Tryz.underlying206 rfl tyC3.size rfl rfl rfl) rfl rfl ?_
      refine dC hW 0 tyC3 ?_
      refine l_val (r_eqlN (n := 0) rfl rfl rfl rfl) rfl rfl ?_
      refine l_split ?_ ?_
      ·intro hc40
       replace hc40 := of_decide_eq_true hc40
       refine aB ?_
       refine lN ?_
       refine kB ?_
       refine aB ?_
       refine lN ?_
       refine kB ?_
       refine l_end (n_then ?_)
       refine c_true rfl ?_
       refine c_seq (c_reg ?_)
       refine bB ?_
       refine l_end (n_then (c_ret (r_then ?_)))
       refine ret_tmp (v := .bool _) rfl rfl ?_
       have e1 : stp o f o.length = x.2 := by rw [show o.length = x.1 by omega]; exact hst
       have hv : askW q x.2.1 x.2.2.1 x.2.2.2 = _ := ask_no (by rw [← hb1]; omega)
       exact ⟨_, [_], rfl, ⟨by rw [plays, e1]; exact congrArg Value.bool hv.symm, by rw [askd, e1, ← hb1]⟩, hW.drop 1⟩
      ·intro hc40
       replace hc40 := of_decide_eq_false hc40
       refine aB ?_
       refine l_valG (r_move (v := .bool _) rfl rfl) (by kernel_rfl) rfl ?_
       refine kB ?_
       refine aB ?_
       refine l_valG (r_move (v := .bool _) rfl rfl) (by kernel_rfl) rfl ?_
       refine kB ?_
       refine l_end (n_then ?_)
       refine c_true rfl ?_
       refine c_seq (c_reg ?_)
       refine bB ?_
       refine l_end (n_then (c_ret (r_then ?_)))
       refine ret_tmp (v := .bool _) rfl rfl ?_
       have e1 : stp o f o.length = x.2 := by rw [show o.length = x.1 by omega]; exact hst
       have hv : askW q x.2.1 x.2.2.1 x.2.2.2 = _ := ask_no (.inr (.inr (decide_eq_true (by rw [← ek]; exact hc39))))
       exact ⟨_, [_], rfl, ⟨by rw [plays, e1]; exact congrArg Value.bool hv.symm, by rw [askd, e1, ← hb1]⟩, hW.drop 1⟩
     ·intro hc39
      replace hc39 := of_decide_eq_false hc39
      refine y_val (r_assign (v := .bool _) rfl rfl) rfl rfl ?_
      refine y_end ?_
      intro W hW
      refine n_then (c_seq (c_seq (c_reg ?_)))
      refine l_val (r_fieldAddr 0 Tryz.underlying206 rfl tyC3.size rfl rfl rfl) rfl rfl ?_
      refine dC hW 0 tyC3 ?_
      refine l_val (r_eqlN (n := 0) rfl rfl rfl rfl) rfl rfl ?_
      refine l_split ?_ ?_
      ·intro hc41
       replace hc41 := of_decide_eq_true hc41
       refine aB ?_
       refine lN ?_
       refine kB ?_
       refine aB ?_
       refine lN ?_
       refine kB ?_
       refine l_end (n_then ?_)
       refine c_true rfl ?_
       refine c_seq (c_reg ?_)
       refine bB ?_
       refine l_end (n_then (c_ret (r_then ?_)))
       refine ret_tmp (v := .bool _) rfl rfl ?_
       have e1 : stp o f o.length = x.2 := by rw [show o.length = x.1 by omega]; exact hst
       have hv : askW q x.2.1 x.2.2.1 x.2.2.2 = _ := ask_no (by rw [← hb1]; omega)
       exact ⟨_, [_], rfl, ⟨by rw [plays, e1]; exact congrArg Value.bool hv.symm, by rw [askd, e1, ← hb1]⟩, hW.drop 1⟩
      ·intro hc41
       replace hc41 := of_decide_eq_false hc41
       refine aB ?_
       refine l_valG (r_move (v := .bool _) rfl rfl) (by kernel_rfl) rfl ?_
       refine kB ?_
       refine aB ?_
       refine l_valG (r_move (v := .bool _) rfl rfl) (by kernel_rfl) rfl ?_
       refine kB ?_
       refine l_end (n_then ?_)
       refine c_false rfl ?_
       refine c_skip (n_then (c_seq ?_))
       refine c_regY hW [] [.q, .q, .q, .q, .q, .q, .q, .q, .q, .q, .q] [0, 1, 3, 7, 15, 31, 63, 15, 255, 511, 1023] (by kernel_rfl) (by kernel_rfl) ?_
       refine y_val (r_fieldAddr 1 Tryz.underlying206 rfl tyC3.size rfl rfl rfl) rfl rfl ?_
       refine y_loadC 0 tyC3 rfl rfl rfl rfl rfl rfl (by decide) ?_
       refine y_val (r_eqlN (n := 0) rfl rfl rfl rfl) rfl rfl ?_
       refine y_split ?_ ?_
       ·intro hc42
        replace hc42 := of_decide_eq_true hc42
        refine yB ?_
        refine yN ?_
        refine yN ?_
        refine yN ?_
        refine yN ?_
        refine yN ?_
        refine yK ?_
        refine y_val (r_assign (v := .bool _) rfl rfl) rfl rfl ?_
        refine y_end ?_
        intro W hW
        refine n_then (c_ret ?_)
        refine ret_tmp (v := .bool _) rfl rfl ?_
        have e1 : stp o f o.length = x.2 := by rw [show o.length = x.1 by omega]; exact hst
        have hneg : ¬ (x.2.1 = 0 ∨ (0 < q.v ∧ q.v < (after q x.2.1 x.2.2.1).x) ∨ noiseB q = true) := by
         rw [← hb1, show noiseB q = false from decide_eq_false (by rw [← ek]; exact hc39)]
         rintro (h | ⟨h1, h2⟩ | h)
         ·omega
         ·omega
         ·cases h
        have hv : askW q x.2.1 x.2.2.1 x.2.2.2 = _ := ask_y0 hneg (by omega)
        exact ⟨_, [_], rfl, ⟨by rw [plays, e1]; exact congrArg Value.bool hv.symm, by rw [askd, e1, ← hb1]⟩, hW.drop 1⟩
       ·intro hc42
        replace hc42 := of_decide_eq_false hc42
        refine yB ?_
        refine y_val (r_move (v := .pointer _) rfl rfl) (by kernel_rfl) rfl ?_
        refine y_val (r_nilCheck rfl rfl) (by kernel_rfl) rfl ?_
        refine y_loadP 1 tyA31 (by kernel_rfl) rfl rfl rfl rfl (by rw [List.length_append, boC_len]; omega) (boC_boxR _ _ _) (by decide) ?_
        refine y_loadA 0 tyA206 (by kernel_rfl) rfl rfl rfl rfl (by first | rfl | exact kc_len _ | exact kcf_len _ | exact boC_len _ _ | (simp; done)) (by decide) ?_
        refine y_call (g_plays b1 t x.2.1 x.2.2.1 x.2.2.2 (by omega) (by omega) (by omega) (by omega)) en130 (by kernel_rfl) rfl rfl rfl ?_
        refine yK ?_
        refine y_val (r_assign (v := .bool _) rfl rfl) rfl rfl ?_
        refine y_end ?_
        intro W hW
        refine n_then (c_ret ?_)
        refine ret_tmp (v := .bool _) rfl rfl ?_
        have e1 : stp o f o.length = x.2 := by rw [show o.length = x.1 by omega]; exact hst
        have hneg : ¬ (x.2.1 = 0 ∨ (0 < q.v ∧ q.v < (after q x.2.1 x.2.2.1).x) ∨ noiseB q = true) := by
         rw [← hb1, show noiseB q = false from decide_eq_false (by rw [← ek]; exact hc39)]
         rintro (h | ⟨h1, h2⟩ | h)
         ·omega
         ·omega
         ·cases h
        have hv : askW q x.2.1 x.2.2.1 x.2.2.2 = _ := (ask_w hneg (by omega)).trans (play_congr em ek).symm
        exact ⟨_, [_], rfl, ⟨by rw [plays, e1]; exact congrArg Value.bool hv.symm, by rw [askd, e1, ← hb1]⟩, hW.drop 1⟩
   ·intro hc34
    replace hc34 := of_decide_eq_false hc34
    refine yB ?_
    refine yN ?_
    refine yN ?_
    refine yN ?_
    refine yN ?_
    refine yN ?_
    refine yN ?_
    refine yN ?_
    refine yN ?_
    refine yN ?_
    refine yK ?_
    refine y_val (r_assign (v := .bool _) rfl rfl) rfl rfl ?_
    refine y_end ?_
    intro W hW
    refine n_then (c_seq ?_)
    refine c_regY hW [] [.q, .q, .q, .q, .q, .q, .q, .q, .q, .q, .q, .q, .q, .q, .q, .q, .q] [0, 1, 3, 7, 0, 0, 48, 112, 0, 256, 1023, 0, 0, 6144, 14336, 32767, 65535] (by kernel_rfl) (by kernel_rfl) ?_
    refine y_val (r_move (v := .pointer _) rfl rfl) rfl rfl ?_
    refine y_val (r_nilCheck rfl rfl) rfl rfl ?_
    refine y_val (r_fieldAddr 10 Tryz.underlying31 rfl tyA29.size rfl rfl rfl) rfl rfl ?_
    refine y_loadP 1 tyA29 (by kernel_rfl) rfl rfl rfl rfl (by rw [List.length_append, boC_len]; omega) (boC_keyR _ _ _) (by decide) ?_
    refine yI ?_
    refine yI ?_
    refine y_val (r_quoN (m := q.a.toNat) (n := q.n.toNat + 1) rfl (congrArg (Value.int .i64) ha) (congrArg (Value.int .i64) hb) (by omega) (by omega)) rfl rfl ?_
    refine y_val (r_conv_i64_u64 Tryz.underlying3 Tryz.underlying22 rfl rfl) rfl rfl ?_
    refine yI ?_
    refine y_val (r_conv_i64_u64 (n := q.n.toNat + 1) Tryz.underlying3 Tryz.underlying22 rfl (congrArg (Value.int .i64) hb)) rfl rfl ?_
    refine y_call (g_Number _ _ _) en129 rfl rfl rfl rfl ?_
    refine yI ?_
    refine yI ?_
    refine y_val (r_remN (m := q.a.toNat) (n := q.n.toNat + 1) rfl (congrArg (Value.int .i64) ha) (congrArg (Value.int .i64) hb) (by omega)) rfl rfl ?_
    refine y_val (r_conv_i64_u64 Tryz.underlying3 Tryz.underlying22 rfl rfl) rfl rfl ?_
    refine y_val (r_neqN rfl rfl rfl rfl) rfl rfl ?_
    refine y_split ?_ ?_
    ·intro hc43
     replace hc43 := of_decide_eq_true hc43
     refine y_val (r_assign (v := .bool _) rfl rfl) rfl rfl ?_
     refine y_end ?_
     intro W hW
     refine n_then (c_seq (c_seq (c_reg ?_)))
     refine l_val (r_fieldAddr 0 Tryz.underlying206 rfl tyC3.size rfl rfl rfl) rfl rfl ?_
     refine dC hW 0 tyC3 ?_
     refine l_val (r_eqlN (n := 0) rfl rfl rfl rfl) rfl rfl ?_
     refine l_split ?_ ?_
     ·intro hc44
      replace hc44 := of_decide_eq_true hc44
      refine aB ?_
      refine lN ?_
      refine kB ?_
      refine aB ?_
      refine lN ?_
      refine kB ?_
      refine l_end (n_then ?_)
      refine c_true rfl ?_
      refine c_seq (c_reg ?_)
      refine bB ?_
      refine l_end (n_then (c_ret (r_then ?_)))
      refine ret_tmp (v := .bool _) rfl rfl ?_
      have e1 : stp o f o.length = x.2 := by rw [show o.length = x.1 by omega]; exact hst
      have hv : askW q x.2.1 x.2.2.1 x.2.2.2 = _ := ask_no (by rw [← hb1]; omega)
      exact ⟨_, [_], rfl, ⟨by rw [plays, e1]; exact congrArg Value.bool hv.symm, by rw [askd, e1, ← hb1]⟩, hW.drop 1⟩
     ·intro hc44
      replace hc44 := of_decide_eq_false hc44
      refine aB ?_
      refine l_valG (r_move (v := .bool _) rfl rfl) (by kernel_rfl) rfl ?_
      refine kB ?_
      refine aB ?_
      refine l_valG (r_move (v := .bool _) rfl rfl) (by kernel_rfl) rfl ?_
      refine kB ?_
      refine l_end (n_then ?_)
      refine c_true rfl ?_
      refine c_seq (c_reg ?_)
      refine bB ?_
      refine l_end (n_then (c_ret (r_then ?_)))
      refine ret_tmp (v := .bool _) rfl rfl ?_
      have e1 : stp o f o.length = x.2 := by rw [show o.length = x.1 by omega]; exact hst
      have hv : askW q x.2.1 x.2.2.1 x.2.2.2 = _ := ask_no (.inr (.inr (decide_eq_true (by rw [← ek]; exact hc43))))
      exact ⟨_, [_], rfl, ⟨by rw [plays, e1]; exact congrArg Value.bool hv.symm, by rw [askd, e1, ← hb1]⟩, hW.drop 1⟩
    ·intro hc43
     replace hc43 := of_decide_eq_false hc43
     refine y_val (r_assign (v := .bool _) rfl rfl) rfl rfl ?_
     refine y_end ?_
     intro W hW
     refine n_then (c_seq (c_seq (c_reg ?_)))
     refine l_val (r_fieldAddr 0 Tryz.underlying206 rfl tyC3.size rfl rfl rfl) rfl rfl ?_
     refine dC hW 0 tyC3 ?_
     refine l_val (r_eqlN (n := 0) rfl rfl rfl rfl) rfl rfl ?_
     refine l_split ?_ ?_
     ·intro hc45
      replace hc45 := of_decide_eq_true hc45
      refine aB ?_
      refine lN ?_
      refine kB ?_
      refine aB ?_
      refine lN ?_
      refine kB ?_
      refine l_end (n_then ?_)
      refine c_true rfl ?_
      refine c_seq (c_reg ?_)
      refine bB ?_
      refine l_end (n_then (c_ret (r_then ?_)))
      refine ret_tmp (v := .bool _) rfl rfl ?_
      have e1 : stp o f o.length = x.2 := by rw [show o.length = x.1 by omega]; exact hst
      have hv : askW q x.2.1 x.2.2.1 x.2.2.2 = _ := ask_no (by rw [← hb1]; omega)
      exact ⟨_, [_], rfl, ⟨by rw [plays, e1]; exact congrArg Value.bool hv.symm, by rw [askd, e1, ← hb1]⟩, hW.drop 1⟩
     ·intro hc45
      replace hc45 := of_decide_eq_false hc45
      refine aB ?_
      refine l_valG (r_move (v := .bool _) rfl rfl) (by kernel_rfl) rfl ?_
      refine kB ?_
      refine aB ?_
      refine l_valG (r_move (v := .bool _) rfl rfl) (by kernel_rfl) rfl ?_
      refine kB ?_
      refine l_end (n_then ?_)
      refine c_false rfl ?_
      refine c_skip (n_then (c_seq ?_))
      refine c_regY hW [] [.q, .q, .q, .q, .q, .q, .q, .q, .q, .q, .q] [0, 1, 3, 7, 15, 31, 63, 15, 255, 511, 1023] (by kernel_rfl) (by kernel_rfl) ?_
      refine y_val (r_fieldAddr 1 Tryz.underlying206 rfl tyC3.size rfl rfl rfl) rfl rfl ?_
      refine y_loadC 0 tyC3 rfl rfl rfl rfl rfl rfl (by decide) ?_
      refine y_val (r_eqlN (n := 0) rfl rfl rfl rfl) rfl rfl ?_
      refine y_split ?_ ?_
      ·intro hc46
       replace hc46 := of_decide_eq_true hc46
       refine yB ?_
       refine yN ?_
       refine yN ?_
       refine yN ?_
       refine yN ?_
       refine yN ?_
       refine yK ?_
       refine y_val (r_assign (v := .bool _) rfl rfl) rfl rfl ?_
       refine y_end ?_
       intro W hW
       refine n_then (c_ret ?_)
       refine ret_tmp (v := .bool _) rfl rfl ?_
       have e1 : stp o f o.length = x.2 := by rw [show o.length = x.1 by omega]; exact hst
       have hneg : ¬ (x.2.1 = 0 ∨ (0 < q.v ∧ q.v < (after q x.2.1 x.2.2.1).x) ∨ noiseB q = true) := by
        rw [← hb1, show noiseB q = false from decide_eq_false (by rw [← ek]; exact hc43)]
        rintro (h | ⟨h1, h2⟩ | h)
        ·omega
        ·omega
        ·cases h
       have hv : askW q x.2.1 x.2.2.1 x.2.2.2 = _ := ask_y0 hneg (by omega)
       exact ⟨_, [_], rfl, ⟨by rw [plays, e1]; exact congrArg Value.bool hv.symm, by rw [askd, e1, ← hb1]⟩, hW.drop 1⟩
      ·intro hc46
       replace hc46 := of_decide_eq_false hc46
       refine yB ?_
       refine y_val (r_move (v := .pointer _) rfl rfl) (by kernel_rfl) rfl ?_
       refine y_val (r_nilCheck rfl rfl) (by kernel_rfl) rfl ?_
       refine y_loadP 1 tyA31 (by kernel_rfl) rfl rfl rfl rfl (by rw [List.length_append, boC_len]; omega) (boC_boxR _ _ _) (by decide) ?_
       refine y_loadA 0 tyA206 (by kernel_rfl) rfl rfl rfl rfl (by first | rfl | exact kc_len _ | exact kcf_len _ | exact boC_len _ _ | (simp; done)) (by decide) ?_
       refine y_call (g_plays b1 t x.2.1 x.2.2.1 x.2.2.2 (by omega) (by omega) (by omega) (by omega)) en130 (by kernel_rfl) rfl rfl rfl ?_
       refine yK ?_
       refine y_val (r_assign (v := .bool _) rfl rfl) rfl rfl ?_
       refine y_end ?_
       intro W hW
       refine n_then (c_ret ?_)
       refine ret_tmp (v := .bool _) rfl rfl ?_
       have e1 : stp o f o.length = x.2 := by rw [show o.length = x.1 by omega]; exact hst
       have hneg : ¬ (x.2.1 = 0 ∨ (0 < q.v ∧ q.v < (after q x.2.1 x.2.2.1).x) ∨ noiseB q = true) := by
        rw [← hb1, show noiseB q = false from decide_eq_false (by rw [← ek]; exact hc43)]
        rintro (h | ⟨h1, h2⟩ | h)
        ·omega
        ·omega
        ·cases h
       have hv : askW q x.2.1 x.2.2.1 x.2.2.2 = _ := (ask_w hneg (by omega)).trans (play_congr em ek).symm
       exact ⟨_, [_], rfl, ⟨by rw [plays, e1]; exact congrArg Value.bool hv.symm, by rw [askd, e1, ← hb1]⟩, hW.drop 1⟩

end Go.Proofs.YtoegpalacppllaaGreat

/- Lists, by the library. -/
namespace Go.Proofs.YtoegpalacppllaaGreat
open Go.RowKit Pl
open Tr Hn
set_option maxRecDepth 10000 in
/-- slices.Clone[[]int,int] -/
theorem g_Clone (aa : Option Addr) (an ac : Nat) (l : List Int) (hl : l.length ≤ 4294967296) : GivesX Tryz.prog 60 [.slice aa an ac].toArray (fun w => RdI w ⟨aa, an, ac⟩ l) (fun v Bs => ∃ s : Sl, v = s.v ∧ NewI s l Bs) := by
 refine givesX_of Tryz.func60 rfl (bs := [.slice aa an ac, undef, undef, undef, undef, undef, undef, undef]) rfl ?_
 intro w hP hW
 have hn : an = l.length := hP.len
 refine c_seq (c_reg ?_)
 refine bS ?_
 refine l_end (n_then (c_seq (c_seq (c_reg ?_))))
 refine aS ?_
 refine l_val (r_eqlNil Tryz.underlying27 rfl rfl rfl rfl) rfl rfl ?_
 refine l_split ?_ ?_
 ·intro hc1
  replace hc1 := of_decide_eq_true hc1
  refine l_end (n_then ?_)
  refine c_true rfl ?_
  refine c_seq (c_reg ?_)
  refine bS ?_
  refine l_end (n_then (c_ret (r_then ?_)))
  refine ret_tmp (v := .slice _ _ _) rfl rfl ?_
  exact ⟨_, [], rfl, ⟨Sl.no, rfl, by rw [show l = [] from List.eq_nil_of_length_eq_zero (by have := hP.ok.nil0 hc1; simp only at this; omega)]; exact NewI.no⟩, hW.sub (List.nil_sublist _)⟩
 ·intro hc1
  replace hc1 := of_decide_eq_false hc1
  refine l_end (n_then ?_)
  refine c_false rfl ?_
  refine c_skip (n_then (c_seq (c_reg ?_)))
  refine l_buildSliceF hW bsl27_0_ rfl rfl rfl rfl ?_
  intro ge W hW
  refine aS ?_
  refine l_twin tyE27 hW (s := ⟨aa, an, ac⟩) (RdI.past hP hW.below) (by omega) hl rfl rfl rfl rfl rfl ?_
  intro s2 Bs W hs hW
  refine bS ?_
  refine l_end (n_then (c_ret ?_))
  refine ret_tmp (v := .slice _ _ _) rfl rfl ?_
  exact ⟨_, _, rfl, ⟨s2, rfl, hs⟩, hW.sub (List.sublist_append_right _ _)⟩

end Go.Proofs.YtoegpalacppllaaGreat

/- An iterator over a list that lay there. -/
namespace Go.Proofs.YtoegpalacppllaaGreat
open Go.RowKit Pl
open Tr Hn
set_option maxRecDepth 10000 in
/-- slices.Values[[]int,int]$1 -/
theorem j_Values {w : World} (l0 : List Int) (g : Nat) (aa : Option Addr) (an ac : Nat) (hl : l0.length ≤ 4294967296) (hP : RdV w g ⟨aa, an, ac⟩ l0) : IterJ Tryz.prog w 163 #[.pointer (some ⟨g, 0, none⟩)] an (fun i => #[.int .i64 (at_ l0 i)]) := by
 refine iterJ_of (lb := [.pointer (some ⟨g, 0, none⟩)]) (F := fun l => [.func (.yield l) #[] #[], .pointer (some ⟨g, 0, none⟩), undef, undef, undef, undef, undef, undef, undef, undef, undef, undef, undef, undef, undef, undef]) Tryz.func163 rfl (fun l => rfl) ?_
 intro r l J L0 W hY hJ hW
 have hn : an = l0.length := hP.rd.len
 refine c_seq (c_reg ?_)
 refine l_loadW tyC27 (v := .slice aa an ac) (hP.past hW.below).box rfl rfl rfl rfl ?_
 refine l_val (r_lenSlice Tryz.underlying27 rfl rfl) rfl rfl ?_
 refine aI ?_
 refine l_end (n_then (c_block ?_))
 refine c_loop (fun (x : Nat × List Blk) (j : Nat → Value) => [.func (.yield l) #[] #[], .pointer (some ⟨g, 0, none⟩), j 2, j 3, j 4, .slice aa an ac, .int .i64 (an : Int), .int .i64 (x.1 : Int), j 8, j 9, j 10, j 11, j 12, j 13, j 14, j 15]) (fun (x : Nat × List Blk) => [] ++ x.2) (fun (x : Nat × List Blk) => x.1 ≤ an ∧ J x.1 x.2) (fun (x : Nat × List Blk) => an - x.1) (0, L0) (by kernel_rfl) hW ⟨Nat.zero_le _, hJ⟩ ?_
 intro x j W hx hW
 obtain ⟨hx, hJx⟩ := hx
 refine c_seq (c_reg ?_)
 refine l_val (r_lssN rfl rfl rfl rfl) rfl rfl ?_
 refine l_split ?_ ?_
 ·intro hc1
  replace hc1 := of_decide_eq_true hc1
  obtain ⟨b0, o0, ha, hc⟩ := hP.rd.ptr (by omega)
  simp only at ha
  subst ha
  refine l_end (n_then (c_seq ?_))
  refine c_true rfl ?_
  refine c_skip (n_then (c_seq (c_block (c_seq (c_reg ?_)))))
  refine l_val (r_indexAddrSl2 (n := x.1) Tryz.underlying27 tyC3.size rfl rfl rfl (by omega)) rfl rfl ?_
  refine l_loadF hW tyC3 (v := .int .i64 (at_ l0 (x.1))) (hc (x.1) (by omega)) rfl rfl rfl rfl ?_
  refine bI ?_
  refine l_end (n_then (c_seq (c_reg ?_)))
  refine l_val (r_move (v := .func _ _ _) rfl rfl) rfl rfl ?_
  refine aI ?_
  refine l_yieldJ (hY x.1 [] x.2 W (by omega) hJx (by rw [List.append_nil]; exact hW)) rfl rfl rfl rfl rfl ?_
  intro Lc1 W hJ1 hW
  rw [List.append_nil] at hW
  refine l_val (r_not rfl rfl) rfl rfl ?_
  refine l_end (n_then ?_)
  refine c_false rfl ?_
  refine c_skip (n_block (n_then (c_reg ?_)))
  refine l_val (r_addN (n := 1) rfl rfl rfl (by omega)) rfl rfl ?_
  refine aI ?_
  refine l_end (n_then ?_)
  exact loop_next (x.1 + 1, Lc1) (by kernel_rfl) hW ⟨by simp only; omega, hJ1⟩ (by simp only; omega)
 ·intro hc1
  replace hc1 := of_decide_eq_false hc1
  have e : x.1 = an := by omega
  rw [e] at hJx
  refine l_end (n_then (c_seq ?_))
  refine c_false rfl ?_
  refine c_exit (x_then (x_then ?_))
  refine x_hit ?_
  refine postM_of ?_
  refine end_none rfl ?_
  exact ⟨⟨_, rfl⟩, x.2, hJx, hW⟩

end Go.Proofs.YtoegpalacppllaaGreat

/- Lists, collected and sorted by the library. -/
namespace Go.Proofs.YtoegpalacppllaaGreat
open Go.RowKit Pl
open Tr Hn
set_option maxRecDepth 10000 in
/-- slices.AppendSeq[[]int,int] -/
theorem g_AppendSeq (g : Nat) (aa : Option Addr) (an ac : Nat) (l : List Int) (hl : l.length ≤ 4294967296) : GivesX Tryz.prog 184 [.slice none 0 0, .func (.func 163) #[] #[.pointer (some ⟨g, 0, none⟩)]].toArray (fun w => RdV w g ⟨aa, an, ac⟩ l) (NewSl 3 1 an (il l)) := by
 refine givesXM_of Tryz.func184 rfl (bs := [.slice none 0 0, .func (.func 163) #[] #[.pointer (some ⟨g, 0, none⟩)], undef, undef, undef, undef, undef, undef, undef, undef, undef, undef, undef]) rfl ?_
 intro w hP hW
 have hn : an = l.length := hP.rd.len
 refine c_seq (c_reg ?_)
 refine l_boxC hW (v := .slice _ _ _) rfl rfl rfl rfl rfl ?_
 intro g1 W hW
 refine bS ?_
 refine l_end (n_then (c_seq (c_seq (c_reg ?_))))
 refine l_val (r_move (v := .func _ _ _) rfl rfl) rfl rfl ?_
 refine l_end (n_then (c_block ?_))
 refine c_rangeJ (j_Values l g aa an ac hl hP) en163 rfl (fun _ => rfl) (fun i Lc => ∃ a c Bs, Lc = ⟨g1, [.slice a i c], 27⟩ :: Bs ∧ OwnSl 3 1 a i c (il (l.take i)) Bs) ⟨none, 0, [], rfl, by rw [List.take_zero]; exact OwnSl.nil 3 1⟩ hW (fun (i : Nat) => fr [.slice none 0 0, .func (.func 163) #[] #[.pointer (some ⟨g, 0, none⟩)], .pointer (some ⟨g1, 0, none⟩), undef, .slice none 0 0, .int .i64 (at_ l i), .func (.func 163) #[] #[.pointer (some ⟨g, 0, none⟩)], .int .i64 (at_ l i), undef, undef, undef, undef, undef] [] []) (fun (i : Nat) => [.slice none 0 0, .func (.func 163) #[] #[.pointer (some ⟨g, 0, none⟩)], .pointer (some ⟨g1, 0, none⟩), undef, .slice none 0 0, undef, .func (.func 163) #[] #[.pointer (some ⟨g, 0, none⟩)], .int .i64 (at_ l i), undef, undef, undef, undef, undef]) (fun _ => by kernel_rfl) ?_ ?_ ?_
 ·intro lq i W
  refine c_reg ?_
  refine bI ?_
  refine l_end ?_
  refine n_then ⟨?_, rfl⟩
  exact congrArg (fun x => (fr x [] [] : Act)) (by kernel_rfl)
 ·intro lq r i L Lc W hi hJ hW
  obtain ⟨a, c, Bs, rfl, hO⟩ := hJ
  replace hW := (show Cl _ (_ :: (Bs ++ L)) _ from hW).perm (List.Perm.cons _ List.perm_append_comm)
  refine c_block (c_reg ?_)
  refine dC hW 0 tyC27 ?_
  refine aI ?_
  refine l_buildSliceF hW (bsl27_1_0 _) rfl rfl rfl rfl ?_
  intro gb W hW
  refine l_appendB tyE27 (L := ⟨gb, _, _⟩ :: ⟨g1, _, _⟩ :: L) hO hW 0 (N := i + 1) rfl rfl rfl rfl rfl rfl rfl rfl (by simp [Value.oneCell']) (by unfold maxLen; omega) (by omega) ?_
  intro a1 c1 Bs1 W hO1 hW
  replace hO1 := hO1.castx rfl (xs' := il (l.take (i + 1))) (il_snoc (by omega))
  refine l_storeC hW 1 tyC27 (v := .slice _ _ _) rfl rfl rfl rfl rfl rfl (by first | rfl | omega | (simp; done) | (simp; omega)) rfl ?_
  intro W hW
  refine l_end (n_block ?_)
  exact ⟨rfl, _, ⟨a1, c1, Bs1, rfl, hO1⟩, (show Cl _ (_ :: (L ++ Bs1)) _ from hW.drop 1).perm (List.Perm.cons _ List.perm_append_comm)⟩
 ·intro D r Lc W hDb hJ hW hD
  obtain ⟨a, c, Bs, rfl, hO⟩ := hJ
  rw [List.take_of_length_le (by omega)] at hO
  refine n_block (n_then (c_seq (c_reg ?_)))
  refine dC hW 0 tyC27 ?_
  refine bS ?_
  refine l_end (n_then (c_ret ?_))
  refine r_mark hW hDb hD ?_
  intro r W hW
  refine ret_tmp (v := .slice _ _ _) rfl rfl ?_
  exact ⟨_, _, rfl, ⟨a, c, rfl, hO⟩, (show Cl _ (_ :: Bs) _ from hW).tobase.drop 1⟩

set_option maxRecDepth 10000 in
/-- slices.Collect[int] -/
theorem g_Collect (g : Nat) (aa : Option Addr) (an ac : Nat) (l : List Int) (hl : l.length ≤ 4294967296) : GivesX Tryz.prog 161 [.func (.func 163) #[] #[.pointer (some ⟨g, 0, none⟩)]].toArray (fun w => RdV w g ⟨aa, an, ac⟩ l) (NewSl 3 1 an (il l)) := by
 refine givesX_of Tryz.func161 rfl (bs := [.func (.func 163) #[] #[.pointer (some ⟨g, 0, none⟩)], undef, undef, undef, undef]) rfl ?_
 intro w hP hW
 refine c_seq (c_reg ?_)
 refine bS ?_
 refine l_end (n_then (c_seq (c_reg ?_)))
 refine l_val (r_move (v := .func _ _ _) rfl rfl) rfl rfl ?_
 refine l_callX hW (g_AppendSeq g aa an ac l hl) en184 (hP.past hW.below) rfl rfl rfl rfl ?_
 rintro _ Bs W ⟨a1, c1, rfl, hO⟩ hW
 refine bS ?_
 refine l_end (n_then (c_ret ?_))
 refine ret_tmp (v := .slice _ _ _) rfl rfl ?_
 exact ⟨_, _, rfl, ⟨a1, c1, rfl, hO⟩, hW⟩

theorem sortsI : SortsI Tryz.prog 162 := ⟨Tryz.slices_Sort_int, Tryz.slices_Sort_int_none⟩
set_option maxRecDepth 10000 in
/-- slices.Sorted[int] -/
theorem g_Sorted (g : Nat) (aa : Option Addr) (an ac : Nat) (l : List Int) (hl : l.length ≤ 4294967296) : GivesX Tryz.prog 126 [.func (.func 163) #[] #[.pointer (some ⟨g, 0, none⟩)]].toArray (fun w => RdV w g ⟨aa, an, ac⟩ l) (NewSl 3 1 an (il (sortI l))) := by
 refine givesX_of Tryz.func126 rfl (bs := [.func (.func 163) #[] #[.pointer (some ⟨g, 0, none⟩)], undef, undef, undef, undef, undef, undef, undef, undef]) rfl ?_
 intro w hP hW
 have hn : an = l.length := hP.rd.len
 refine c_seq (c_reg ?_)
 refine bS ?_
 refine l_end (n_then (c_seq (c_reg ?_)))
 refine l_val (r_move (v := .func _ _ _) rfl rfl) rfl rfl ?_
 refine l_callX hW (g_Collect g aa an ac l hl) en161 (hP.past hW.below) rfl rfl rfl rfl ?_
 rintro _ Bs W ⟨a1, c1, rfl, hO⟩ hW
 refine bS ?_
 refine l_end (n_then (c_seq (c_reg ?_)))
 refine aS ?_
 refine l_sort sortsI (L := []) hO hW (by omega) en162 rfl rfl rfl rfl ?_
 intro Bs1 W hO1 hW
 refine l_end (n_then (c_seq (c_reg ?_)))
 refine aS ?_
 refine bS ?_
 refine l_end (n_then (c_ret ?_))
 refine ret_tmp (v := .slice _ _ _) rfl rfl ?_
 exact ⟨_, _, rfl, ⟨a1, c1, rfl, hO1⟩, hW⟩

set_option maxRecDepth 10000 in
/-- slices.Grow[[]int,int] -/
theorem g_Grow (n : Nat) (hn : n ≤ 17592186043904) : GivesX Tryz.prog 164 [.slice none 0 0, .int .i64 (n : Int)].toArray (fun _ => True) (NewSl 3 1 0 []) := by
 refine givesX_of Tryz.func164 rfl (bs := [.slice none 0 0, .int .i64 (n : Int), undef, undef, undef, undef, undef, undef, undef, undef, undef, undef, undef, undef, undef, undef, undef, undef, undef, undef, undef, undef, undef, undef, undef, undef, undef]) rfl ?_
 intro w hP hW
 refine c_seq (c_reg ?_)
 refine bS ?_
 refine l_end (n_then (c_seq (c_seq (c_reg ?_))))
 refine aI ?_
 refine l_val (r_lssN (b := false) (n := 0) rfl rfl rfl (decide_eq_false (by omega))) rfl rfl ?_
 refine l_end (n_then ?_)
 refine c_false rfl ?_
 refine c_skip (n_then (c_seq (c_seq (c_reg ?_))))
 refine aI ?_
 refine aS ?_
 refine l_val (r_cap Tryz.underlying27 rfl rfl) rfl rfl ?_
 refine aS ?_
 refine l_val (r_lenSlice Tryz.underlying27 rfl rfl) rfl rfl ?_
 refine l_val (r_subN rfl rfl rfl (by omega) (by omega)) rfl rfl ?_
 refine l_val (r_subN rfl rfl rfl (by omega) (by omega)) rfl rfl ?_
 refine bI ?_
 refine l_end (n_then (c_seq (c_reg ?_)))
 refine aI ?_
 refine l_val (r_gtrN (n := 0) rfl rfl rfl rfl) rfl rfl ?_
 refine l_split ?_ ?_
 ·intro hc1
  replace hc1 := of_decide_eq_true hc1
  refine l_end (n_then ?_)
  refine c_true rfl ?_
  refine c_reg ?_
  refine aS ?_
  refine aS ?_
  refine l_val (r_cap Tryz.underlying27 rfl rfl) rfl rfl ?_
  refine l_val (r_sliceTo (h := 0) Tryz.underlying27 tyC3.size rfl rfl rfl (by omega) (fun _ => rfl)) rfl rfl ?_
  refine aI ?_
  refine l_appendZ (k := n) tyE27 Tryz.underlying3 hW (by omega) (by omega) (by omega) rfl rfl rfl rfl rfl ?_
  intro gn cn cur W h1 h2 h3 hW
  refine aS ?_
  refine l_val (r_lenSlice Tryz.underlying27 rfl rfl) rfl rfl ?_
  refine l_val (r_sliceTo (h := 0) Tryz.underlying27 tyC3.size rfl rfl rfl (by omega) (fun h => by cases h)) rfl rfl ?_
  refine bS ?_
  refine l_end (n_then (c_seq (c_reg ?_)))
  refine aS ?_
  refine bS ?_
  refine l_end (n_then (c_ret ?_))
  refine ret_tmp (v := .slice _ _ _) rfl rfl ?_
  exact ⟨_, _, rfl, ⟨_, _, rfl, ⟨by simp, .inr ⟨gn, cur, rfl, rfl, by omega, h2, by omega, by simp⟩⟩⟩, hW⟩
 ·intro hc1
  replace hc1 := of_decide_eq_false hc1
  refine l_end (n_then ?_)
  refine c_false rfl ?_
  refine c_skip (n_then (c_seq (c_reg ?_)))
  refine aS ?_
  refine bS ?_
  refine l_end (n_then (c_ret ?_))
  refine ret_tmp (v := .slice _ _ _) rfl rfl ?_
  exact ⟨_, _, rfl, ⟨_, _, rfl, OwnSl.nil 3 1⟩, hW⟩

end Go.Proofs.YtoegpalacppllaaGreat

/- An iterator over a list. -/
namespace Go.Proofs.YtoegpalacppllaaGreat
open Go.RowKit Pl
open Tr Hn
set_option maxRecDepth 10000 in
/-- slices.Values[[]int,int] -/
theorem g_Values (aa : Option Addr) (an ac : Nat) : GivesX Tryz.prog 127 [.slice aa an ac].toArray (fun _ => True) (fun v Bs => ∃ g, v = .func (.func 163) #[] #[.pointer (some ⟨g, 0, none⟩)] ∧ Bs = [⟨g, [.slice aa an ac], 27⟩]) := by
 refine givesX_of Tryz.func127 rfl (bs := [.slice aa an ac, undef, undef, undef]) rfl ?_
 intro w hP hW
 refine c_seq (c_reg ?_)
 refine l_boxC hW (v := .slice _ _ _) rfl rfl rfl rfl rfl ?_
 intro g1 W hW
 refine l_val (r_assign (v := .nilFunc) rfl rfl) rfl rfl ?_
 refine l_end (n_then (c_seq (c_reg ?_)))
 refine l_val (r_closure (vs := [.pointer (some ⟨g1, 0, none⟩)]) rfl rfl) rfl rfl ?_
 refine l_val (r_assign (v := .func _ _ _) rfl rfl) rfl rfl ?_
 refine l_end (n_then (c_ret ?_))
 refine ret_tmp (v := .func _ _ _) rfl rfl ?_
 exact ⟨_, _, rfl, ⟨g1, rfl, rfl⟩, hW⟩

end Go.Proofs.YtoegpalacppllaaGreat

/- Merged lists, by the program. -/
namespace Go.Proofs.YtoegpalacppllaaGreat
open Go.RowKit Pl
open Tr Hn
set_option maxRecDepth 10000 in
/-- slices.Concat[[]int,int] -/
theorem g_Concat (aa : Option Addr) (an ac : Nat) (cs : List Sl) (gs : List (List Int)) (hm : sumL gs ≤ 4294967296) (han : an ≤ 4294967296) : GivesX Tryz.prog 128 [.slice aa an ac].toArray (fun w => RdG w ⟨aa, an, ac⟩ cs gs) (NewSl 3 1 (sumL gs) (il gs.flatten)) := by
 refine givesX_of Tryz.func128 rfl (bs := [.slice aa an ac, undef, undef, undef, undef, undef, undef, undef, undef, undef, undef, undef, undef, undef, undef, undef, undef, undef, undef, undef, undef, undef, undef, undef, undef, undef, undef, undef, undef, undef, undef, undef, undef, undef, undef, undef]) rfl ?_
 intro w hP hW
 have hn : an = gs.length := by have h1 := hP.n; have h2 := hP.len; simp only at h1; omega
 refine c_seq (c_reg ?_)
 refine bS ?_
 refine l_end (n_then (c_seq (c_reg ?_)))
 refine bI ?_
 refine l_end (n_then (c_seq (c_seq (c_reg ?_))))
 refine aS ?_
 refine l_val (r_lenSlice Tryz.underlying150 rfl rfl) rfl rfl ?_
 refine aI ?_
 refine l_end (n_then (c_block ?_))
 refine c_loop (fun (x : Nat × Nat) (j : Nat → Value) => [.slice aa an ac, j 1, j 2, .int .i64 (x.2 : Int), j 4, j 5, j 6, j 7, j 8, .slice aa an ac, .int .i64 (an : Int), .int .i64 (x.1 : Int), j 12, j 13, j 14, j 15, j 16, j 17, j 18, j 19, j 20, j 21, j 22, j 23, j 24, j 25, j 26, j 27, j 28, j 29, j 30, j 31, j 32, j 33, j 34, j 35]) (fun (x : Nat × Nat) => []) (fun (x : Nat × Nat) => x.1 ≤ an ∧ x.2 = sumL (gs.take x.1)) (fun (x : Nat × Nat) => an - x.1) (0, 0) (by kernel_rfl) hW ⟨Nat.zero_le _, rfl⟩ ?_
 intro x j W hx hW
 obtain ⟨i, m⟩ := x
 obtain ⟨hx, hm2⟩ := hx
 simp only at hx hm2
 have hle := sumL_take_le gs i
 refine c_seq (c_reg ?_)
 refine l_val (r_lssN rfl rfl rfl rfl) rfl rfl ?_
 refine l_split ?_ ?_
 ·intro hc1
  replace hc1 := of_decide_eq_true hc1
  obtain ⟨b0, o0, ha⟩ := hP.ptr (by omega)
  subst ha
  obtain ⟨s, l, e, f, hc, hr⟩ := hP.get (i := i) (by omega)
  have hsl := hr.len
  have htk := sumL_take_le gs (i + 1)
  rw [sumL_take f] at htk
  refine l_end (n_then (c_seq ?_))
  refine c_true rfl ?_
  refine c_skip (n_then (c_seq (c_block (c_seq (c_reg ?_)))))
  refine l_val (r_indexAddrSl2 (n := i) Tryz.underlying150 tyC27.size rfl rfl rfl (by omega)) rfl rfl ?_
  refine l_loadF hW tyC27 (v := s.v) hc rfl rfl rfl rfl ?_
  refine bS ?_
  refine l_end (n_then (c_seq (c_reg ?_)))
  refine aI ?_
  refine aS ?_
  refine l_val (r_lenSlice Tryz.underlying27 rfl rfl) rfl rfl ?_
  refine l_val (r_addN rfl rfl rfl (by omega)) rfl rfl ?_
  refine bI ?_
  refine l_end (n_then (c_seq (c_reg ?_)))
  refine aI ?_
  refine l_val (r_lssN (b := false) (n := 0) rfl rfl rfl (decide_eq_false (by omega))) rfl rfl ?_
  refine l_end (n_then ?_)
  refine c_false rfl ?_
  refine c_skip (n_block (n_then (c_reg ?_)))
  refine l_val (r_addN (n := 1) rfl rfl rfl (by omega)) rfl rfl ?_
  refine aI ?_
  refine l_end (n_then ?_)
  exact loop_next (i + 1, m + s.n) (by kernel_rfl) hW ⟨by simp only; omega, by simp only; rw [sumL_take f]; omega⟩ (by simp only; omega)
 ·intro hc1
  replace hc1 := of_decide_eq_false hc1
  have e0 : i = an := by omega
  rw [e0, List.take_of_length_le (by omega)] at hm2
  refine l_end (n_then (c_seq ?_))
  refine c_false rfl ?_
  refine c_exit (x_then (x_then ?_))
  refine x_hit ?_
  refine n_then (c_seq (c_reg ?_))
  refine aI ?_
  refine l_callX hW (g_Grow m (by omega)) en164 trivial rfl rfl rfl rfl ?_
  rintro _ Bs W ⟨a0, c0, rfl, hO0⟩ hW
  refine bS ?_
  refine l_end (n_then (c_seq (c_seq (c_reg ?_))))
  refine aS ?_
  refine l_val (r_lenSlice Tryz.underlying150 rfl rfl) rfl rfl ?_
  refine aI ?_
  refine l_end (n_then (c_block ?_))
  refine c_loop (fun (y : Nat × Nat × Option Addr × Nat × List Blk) (j : Nat → Value) => [.slice aa an ac, j 1, j 2, j 3, j 4, j 5, .slice y.2.2.1 y.2.1 y.2.2.2.1, j 7, j 8, .slice aa an ac, .int .i64 (an : Int), j 11, .bool false, j 13, j 14, j 15, j 16, j 17, j 18, j 19, j 20, j 21, j 22, j 23, .slice a0 0 c0, .slice aa an ac, .int .i64 (an : Int), .int .i64 (y.1 : Int), j 28, j 29, j 30, j 31, j 32, j 33, j 34, j 35]) (fun (y : Nat × Nat × Option Addr × Nat × List Blk) => [] ++ y.2.2.2.2) (fun (y : Nat × Nat × Option Addr × Nat × List Blk) => y.1 ≤ an ∧ OwnSl 3 1 y.2.2.1 y.2.1 y.2.2.2.1 (il (gs.take y.1).flatten) y.2.2.2.2) (fun (y : Nat × Nat × Option Addr × Nat × List Blk) => an - y.1) (0, 0, a0, c0, Bs) (by kernel_rfl) hW ⟨Nat.zero_le _, hO0⟩ ?_
  intro y j W hx hW
  obtain ⟨hy, hO⟩ := hx
  have hyn := hO.1
  rw [il_len, ← sumL_flat] at hyn
  refine c_seq (c_reg ?_)
  refine l_val (r_lssN rfl rfl rfl rfl) rfl rfl ?_
  refine l_split ?_ ?_
  ·intro hc2
   replace hc2 := of_decide_eq_true hc2
   obtain ⟨b0, o0, ha⟩ := hP.ptr (by omega)
   subst ha
   obtain ⟨s, l, e, f, hc, hr⟩ := hP.get (i := y.1) (by omega)
   have hsl := hr.len
   have htk := sumL_take_le gs (y.1 + 1)
   rw [sumL_take f] at htk
   refine l_end (n_then (c_seq ?_))
   refine c_true rfl ?_
   refine c_skip (n_then (c_seq (c_block (c_seq (c_reg ?_)))))
   refine l_val (r_indexAddrSl2 (n := y.1) Tryz.underlying150 tyC27.size rfl rfl rfl (by omega)) rfl rfl ?_
   refine l_loadF hW tyC27 (v := s.v) hc rfl rfl rfl rfl ?_
   refine bS ?_
   refine l_end (n_then (c_reg ?_))
   refine aS ?_
   refine aS ?_
   refine l_appendR tyE27 (L := []) hO hW (hr.past hW.below).rd (N := y.2.1 + s.n) rfl rfl rfl rfl rfl rfl (by rw [il_len]; exact hsl.symm) (fun h => ⟨hr.ok.nil0 h, hr.ok.nil h⟩) (il_one _) (by unfold maxLen; omega) (by omega) ?_
   intro a1 c1 Bs1 W hO1 hW
   replace hO1 := hO1.castx rfl (xs' := il (gs.take (y.1 + 1)).flatten) (by rw [take_flat f, il_append])
   refine bS ?_
   refine l_end (n_block (n_then (c_reg ?_)))
   refine l_val (r_addN (n := 1) rfl rfl rfl (by omega)) rfl rfl ?_
   refine aI ?_
   refine l_end (n_then ?_)
   exact loop_next (y.1 + 1, y.2.1 + s.n, a1, c1, Bs1) (by kernel_rfl) hW ⟨by simp only; omega, hO1⟩ (by simp only; omega)
  ·intro hc2
   replace hc2 := of_decide_eq_false hc2
   have e : y.1 = an := by omega
   rw [e, List.take_of_length_le (by omega)] at hO
   have e2 : y.2.1 = sumL gs := by rw [e, List.take_of_length_le (by omega)] at hyn; omega
   rw [e2] at hO
   refine l_end (n_then (c_seq ?_))
   refine c_false rfl ?_
   refine c_exit (x_then (x_then ?_))
   refine x_hit ?_
   refine n_then (c_seq (c_reg ?_))
   refine aS ?_
   refine bS ?_
   refine l_end (n_then (c_ret ?_))
   refine ret_tmp (v := .slice _ _ _) rfl rfl ?_
   exact ⟨_, _, rfl, ⟨_, _, by rw [e2], hO⟩, hW⟩

set_option maxRecDepth 10000 in
/-- headend/trace.merged[int] -/
theorem g_merged (aa : Option Addr) (an ac : Nat) (cs : List Sl) (gs : List (List Int)) (hm : sumL gs ≤ 4294967296) (han : an ≤ 4294967296) : GivesX Tryz.prog 80 [.slice aa an ac].toArray (fun w => RdG w ⟨aa, an, ac⟩ cs gs) (fun v Bs => ∃ s : Sl, v = s.v ∧ NewI s (sortI gs.flatten) Bs) := by
 refine givesX_of Tryz.func80 rfl (bs := [.slice aa an ac, undef, undef, undef, undef, undef, undef]) rfl ?_
 intro w hP hW
 refine c_seq (c_reg ?_)
 refine bS ?_
 refine l_end (n_then (c_seq (c_reg ?_)))
 refine aS ?_
 refine l_callX hW (g_Concat aa an ac cs gs hm han) en128 (hP.past hW.below) rfl rfl rfl rfl ?_
 rintro _ Bs W ⟨a1, c1, rfl, hO⟩ hW
 refine l_callX hW (g_Values a1 (sumL gs) c1) en127 trivial rfl rfl rfl rfl ?_
 rintro _ _ W ⟨g, rfl, rfl⟩ hW
 refine l_callX hW (g_Sorted g a1 (sumL gs) c1 gs.flatten (by rw [← sumL_flat]; exact hm)) en126 ⟨by rw [cell_at (hW.holds ⟨g, [.slice a1 (sumL gs) c1], 27⟩ (by simp))]; rfl, hO.rep.at hW (List.sublist_append_left Bs _)⟩ rfl rfl rfl rfl ?_
 rintro _ Bs2 W ⟨a2, c2, rfl, hO2⟩ hW
 refine bS ?_
 refine l_end (n_then (c_ret ?_))
 refine ret_tmp (v := .slice _ _ _) rfl rfl ?_
 exact ⟨_, Bs2, rfl, ⟨_, rfl, hO2.newI⟩, hW.sub (List.sublist_append_right _ _)⟩

end Go.Proofs.YtoegpalacppllaaGreat

/- Partitions, and queries of a trace, by the program. -/
namespace Go.Proofs.YtoegpalacppllaaGreat
open Go.RowKit Pl
open Tr Hn
set_option maxRecDepth 10000 in
/-- slices.Clone[[]headend/api.Subset,headend/api.Subset] -/
theorem g_CloneB (aa : Option Addr) (an ac : Nat) (l : List (Int × Int)) (hl : l.length ≤ 4294967296) : GivesX Tryz.prog 61 [.slice aa an ac].toArray (fun w => RdB w ⟨aa, an, ac⟩ l) (NewSl 64 2 l.length (sl2 l)) := by
 refine givesX_of Tryz.func61 rfl (bs := [.slice aa an ac, undef, undef, undef, undef, undef, undef, undef]) rfl ?_
 intro w hP hW
 have hn : an = l.length := hP.len
 refine c_seq (c_reg ?_)
 refine bS ?_
 refine l_end (n_then (c_seq (c_seq (c_reg ?_))))
 refine aS ?_
 refine l_val (r_eqlNil Tryz.underlying33 rfl rfl rfl rfl) rfl rfl ?_
 refine l_split ?_ ?_
 ·intro hc1
  replace hc1 := of_decide_eq_true hc1
  refine l_end (n_then ?_)
  refine c_true rfl ?_
  refine c_seq (c_reg ?_)
  refine bS ?_
  refine l_end (n_then (c_ret (r_then ?_)))
  refine ret_tmp (v := .slice _ _ _) rfl rfl ?_
  have h0 : l = [] := List.eq_nil_of_length_eq_zero (by have := hP.ok.nil0 hc1; simp only at this; omega)
  exact ⟨_, [], rfl, by rw [h0]; exact ⟨none, 0, rfl, OwnSl.nil 64 2⟩, hW.sub (List.nil_sublist _)⟩
 ·intro hc1
  replace hc1 := of_decide_eq_false hc1
  refine l_end (n_then ?_)
  refine c_false rfl ?_
  refine c_skip (n_then (c_seq (c_reg ?_)))
  refine l_buildSliceF hW bsl33_0_ rfl rfl rfl rfl ?_
  intro ge W hW
  refine aS ?_
  refine l_twinB tyE33 hW (s := ⟨aa, an, ac⟩) (RdB.past hP hW.below) (by unfold maxLen; omega) (by omega) rfl rfl rfl rfl rfl ?_
  intro a2 c2 Bs W hs hW
  refine bS ?_
  refine l_end (n_then (c_ret ?_))
  refine ret_tmp (v := .slice _ _ _) rfl rfl ?_
  exact ⟨_, _, rfl, ⟨_, _, rfl, hs⟩, hW⟩

theorem allm_len {s : Sc} (hd : s.d ≤ 6) : ∀ (l : List (Int × Int)), (allm s l).length ≤ l.length * 64
 | [] => Nat.zero_le _
 | x :: l => by
  have h1 := mem_len s x.1 x.2 (p2 s.d.toNat)
  have h2 := p2_le (n := s.d.toNat) (by omega)
  have h3 := allm_len hd l
  rw [allm_cons, List.length_append, List.length_cons, Nat.succ_mul]; omega
theorem compI : CompI Tryz.prog 86 := ⟨Tryz.slices_Compact_int, Tryz.slices_Compact_int_empty⟩
set_option maxRecDepth 10000 in
/-- headend/trace.CheckParts -/
theorem g_CheckParts (s : Sc) (ba : Option Addr) (bn bc : Nat) (l : List (Int × Int)) (hl : l.length ≤ 100) : GivesR Tryz.prog 37 [.agg [.int .u8 s.k, .int .i64 s.d, .int .i64 s.g, .int .u64 s.p, .int .u64 s.q, .int .u64 s.r].toArray, .slice ba bn bc].toArray (fun w => RdB w ⟨ba, bn, bc⟩ l) (.int .i64 (partsE s l)) := by
 refine givesR_of Tryz.func37 rfl (bs := [.agg [.int .u8 s.k, .int .i64 s.d, .int .i64 s.g, .int .u64 s.p, .int .u64 s.q, .int .u64 s.r].toArray, .slice ba bn bc, undef, undef, undef, undef, undef, undef, undef, undef, undef, undef, undef, undef, undef, undef, undef, undef, undef, undef, undef, undef, undef, undef, undef, undef, undef, undef, undef, undef, undef, undef]) rfl ?_
 intro w hP hW
 have hn : bn = l.length := hP.len
 refine c_seq (c_reg ?_)
 refine xB hW ?_
 intro g1 W hW
 refine bI ?_
 refine l_end (n_then (c_seq (c_seq (c_reg ?_))))
 refine dA hW 0 tyA26 ?_
 refine l_call hW (g_Check _) en68 rfl rfl rfl rfl ?_
 intro W hW
 refine bI ?_
 refine l_end (n_then (c_seq (c_reg ?_)))
 refine aI ?_
 refine l_val (r_neq rfl rfl rfl rfl) rfl rfl ?_
 refine l_split ?_ ?_
 ·intro hc1
  replace hc1 := of_decide_eq_true hc1
  have hs := chk_bad hc1
  refine l_end (n_then ?_)
  refine c_true rfl ?_
  refine c_seq (c_reg ?_)
  refine aI ?_
  refine bI ?_
  refine l_end (n_then (c_ret (r_then ?_)))
  refine ret_tmp (v := .int .i64 (partsE s l)) rfl ?_ ⟨rfl, hW.below⟩
  exact congrArg (Value.int .i64) (parts_s hc1).symm
 ·intro hc1
  replace hc1 := of_decide_eq_false hc1
  have hs := chk_zero hc1
  obtain ⟨k1, k3, d0, d6, -⟩ := schB_iff.1 hs
  have hp := p2_le (n := s.d.toNat) (by omega)
  refine l_end (n_then ?_)
  refine c_false rfl ?_
  refine c_skip (n_then (c_seq (c_reg ?_)))
  refine dA hW 0 tyA26 ?_
  refine aS ?_
  refine l_callX hW (g_psubsets s ba bn bc l hs hl) en83 (hP.past hW.below) rfl rfl rfl rfl ?_
  rintro _ BsS W ⟨tS, ss, rfl, hG⟩ hW
  refine l_val (r_move (v := .tuple _) rfl rfl) rfl rfl ?_
  refine l_val (r_extract (v := .slice _ _ _) rfl rfl rfl) rfl rfl ?_
  refine l_val (r_extract (v := .int _ _) rfl rfl rfl) rfl rfl ?_
  refine bS ?_
  refine bI ?_
  refine l_end (n_then (c_seq (c_seq (c_reg ?_))))
  refine aI ?_
  refine l_val (r_neq rfl rfl rfl rfl) rfl rfl ?_
  refine l_split ?_ ?_
  ·intro hc2
   replace hc2 := of_decide_eq_true hc2
   refine l_end (n_then ?_)
   refine c_true rfl ?_
   refine c_seq (c_reg ?_)
   refine aI ?_
   refine bI ?_
   refine l_end (n_then (c_ret (r_then ?_)))
   refine ret_tmp (v := .int .i64 (partsE s l)) rfl ?_ ⟨rfl, hW.below⟩
   exact congrArg (Value.int .i64) (parts_l (fun e => hc1 e) hc2).symm
  ·intro hc2
   replace hc2 := of_decide_eq_false hc2
   have hz0 : subsE s l = 0 := by omega
   have hal := allm_len d6 l
   have hsi := sortI_len (allm s l)
   obtain ⟨tn, hmn⟩ : ∃ tn, tn = tS.n := ⟨_, rfl⟩
   refine l_end (n_then ?_)
   refine c_false rfl ?_
   refine c_skip (n_then (c_seq (c_reg ?_)))
   refine aS ?_
   have hG1 := (hG hz0).at hW (List.sublist_append_right [_] BsS)
   have htn : tS.n = l.length := by have h1 := hG1.n; have h2 := hG1.len; rw [mems_len] at h2; omega
   refine l_callX hW (g_merged tS.a tS.n tS.c ss (mems s l) (by rw [sumL_flat]; exact Nat.le_trans hal (by omega)) (by omega)) en80 hG1 rfl rfl rfl rfl ?_
   rintro _ BM W ⟨sm, rfl, hNM⟩ hW
   replace hNM : NewI sm (sortI (allm s l)) BM := hNM
   have hmn2 := hNM.n
   refine bS ?_
   refine l_end (n_then (c_seq (c_seq (c_reg ?_))))
   refine aS ?_
   refine l_callX hW (g_Clone sm.a sm.n sm.c (sortI (allm s l)) (by omega)) en60 (hNM.rep.at hW (List.sublist_append_right _ BM)) rfl rfl rfl rfl ?_
   rintro _ BC W ⟨sc, rfl, hNC⟩ hW
   refine l_compact compI hNC hW (by omega) en86 rfl rfl rfl rfl ?_
   intro W hW
   refine l_val (r_lenSlice Tryz.underlying27 rfl rfl) rfl rfl ?_
   refine aS ?_
   refine l_val (r_lenSlice Tryz.underlying27 rfl rfl) rfl rfl ?_
   refine l_val (r_lssN rfl rfl rfl rfl) rfl rfl ?_
   refine l_split ?_ ?_
   ·intro hc3
    replace hc3 := of_decide_eq_true hc3
    refine l_end (n_then ?_)
    refine c_true rfl ?_
    refine c_seq (c_reg ?_)
    refine bI ?_
    refine l_end (n_then (c_ret (r_then ?_)))
    refine ret_tmp (v := .int .i64 (partsE s l)) rfl ?_ ⟨rfl, hW.below⟩
    exact congrArg (Value.int .i64) (parts_n hc1 hc2 (compact_sort.1 (by omega))).symm
   ·intro hc3
    replace hc3 := of_decide_eq_false hc3
    refine l_end (n_then ?_)
    refine c_false rfl ?_
    refine c_skip (n_then (c_seq (c_reg ?_)))
    refine bI ?_
    refine l_end (n_then (c_ret ?_))
    refine ret_tmp (v := .int .i64 (partsE s l)) rfl ?_ ⟨rfl, hW.below⟩
    exact congrArg (Value.int .i64) (parts_y hc1 hc2 (Classical.not_not.1 fun hn => absurd (compact_sort.2 hn) (by omega))).symm

set_option maxRecDepth 10000 in
/-- (*headend/trace.tracer).seen -/
theorem g_tseen (q : Bo) (t : Sl) (gx nn a e : Nat) (n2 l2 : Sl) (oa : Option Addr) (on oc : Nat) (o : List Bool) (f : Int) (n0 : 0 ≤ q.n) (n8 : q.n ≤ 8) (x0 : 0 ≤ q.x) (x1 : q.x ≤ q.a) (m1 : 1 ≤ q.m) (m4 : q.m ≤ 4) (hn : nn ≤ 8) (hx2 : q.a + ((2 * nn + 1 : Nat) : Int) ≤ 100000) (ha2 : a ≤ 100000) (ho : o.length ≤ 100) : GivesS Tryz.prog 105 [.pointer (some ⟨gx, 0, none⟩), .slice oa on oc, .int .i64 f].toArray (fun b0 L => ∀ W, Cl b0 L W → RdT W ⟨oa, on, oc⟩ o) [⟨gx, (boC q t ++ trR nn n2 l2 a e), 124⟩] (fun v B => v = .bool (seenN o f (2 * nn + 1) q a).2.1 ∧ B = [⟨gx, boC (seenN o f (2 * nn + 1) q a).1 t ++ trR nn n2 l2 (seenN o f (2 * nn + 1) q a).2.2 e, 124⟩]) := by
 refine givesS_of Tryz.func105 rfl (bs := [.pointer (some ⟨gx, 0, none⟩), .slice oa on oc, .int .i64 f, undef, undef, undef, undef, undef, undef, undef, undef, undef, undef, undef, undef, undef, undef, undef, undef, undef, undef, undef, undef, undef, undef, undef, undef, undef, undef, undef, undef]) rfl ?_
 intro b L w hP hW
 refine c_seq (c_reg ?_)
 refine bB ?_
 refine l_end (n_then (c_seq (c_seq (c_reg ?_))))
 refine aP ?_
 refine l_val (r_nilCheck rfl rfl) rfl rfl ?_
 refine l_val (r_fieldAddr 28 Tryz.underlying124 rfl tyC3.size rfl rfl rfl) rfl rfl ?_
 refine dC hW 0 tyC3 ?_
 refine l_val (r_mulN (m := 2) rfl rfl rfl (by omega)) rfl rfl ?_
 refine l_val (r_addN (n := 1) rfl rfl rfl (by omega)) rfl rfl ?_
 refine aI ?_
 refine l_end (n_then (c_block ?_))
 refine c_loop (fun (z : Nat × Bo) (j : Nat → Value) => [.pointer (some ⟨gx, 0, none⟩), .slice oa on oc, .int .i64 f, j 3, j 4, j 5, j 6, .pointer (some ⟨gx, 0, none⟩), .pointer (some ⟨gx, 0, none⟩), .pointer (some ⟨gx, 28, none⟩), .int .i64 (nn : Int), .int .i64 ((2 * nn : Nat) : Int), .int .i64 (((2 * nn) + 1 : Nat) : Int), .int .i64 (z.1 : Int), j 14, j 15, j 16, j 17, j 18, j 19, j 20, j 21, j 22, j 23, j 24, j 25, j 26, j 27, j 28, j 29, j 30]) (fun (z : Nat × Bo) => [⟨gx, (boC z.2 t ++ trR nn n2 l2 (a + z.1) e), 124⟩] ++ L) (fun (z : Nat × Bo) => z.1 ≤ (2 * nn + 1) ∧ Askd q z.2 z.1 ∧ seenN o f (2 * nn + 1) q a = seenN o f ((2 * nn + 1) - z.1) z.2 (a + z.1)) (fun (z : Nat × Bo) => (2 * nn + 1) - z.1) (0, q) (by kernel_rfl) hW ⟨Nat.zero_le _, Askd.refl x0 x1, rfl⟩ ?_
 intro z j W hx hW
 obtain ⟨hz, ha, hsn⟩ := hx
 have e1 := ha.a
 have e2 := ha.n
 have e3 := ha.x0
 have e4 := ha.x1
 have e5 := ha.m
 refine c_seq (c_reg ?_)
 refine l_val (r_lssN rfl rfl rfl rfl) rfl rfl ?_
 refine l_split ?_ ?_
 ·intro hc1
  replace hc1 := of_decide_eq_true hc1
  refine l_end (n_then (c_seq ?_))
  refine c_true rfl ?_
  refine c_skip (n_then (c_seq (c_block (c_seq (c_reg ?_)))))
  refine aP ?_
  refine l_val (r_nilCheck rfl rfl) rfl rfl ?_
  refine l_val (r_fieldAddr 29 Tryz.underlying124 rfl tyA38.size rfl rfl rfl) rfl rfl ?_
  refine l_val (r_fieldAddr 31 Tryz.underlying38 rfl tyC3.size rfl rfl rfl) rfl rfl ?_
  refine dC hW 0 tyC3 ?_
  refine l_val (r_addN (n := 1) rfl rfl rfl (by omega)) rfl rfl ?_
  refine l_val (r_nilCheck rfl rfl) rfl rfl ?_
  refine l_val (r_fieldAddr 29 Tryz.underlying124 rfl tyA38.size rfl rfl rfl) rfl rfl ?_
  refine l_val (r_fieldAddr 31 Tryz.underlying38 rfl tyC3.size rfl rfl rfl) rfl rfl ?_
  refine l_storeC hW 0 tyC3 (v := .int .i64 ((a + z.1 + 1 : Nat) : Int)) rfl rfl rfl rfl rfl rfl (trR_len (by decide)) rfl ?_
  intro W hW
  replace hW := (show Cl _ ([⟨gx, boC z.2 t ++ trR nn n2 l2 (a + z.1 + 1) e, 124⟩] ++ L) _ from hW)
  refine l_end (n_then (c_seq (c_reg ?_)))
  refine aP ?_
  refine l_val (r_nilCheck rfl rfl) rfl rfl ?_
  refine l_val (r_fieldAddr 0 Tryz.underlying124 rfl tyA31.size rfl rfl rfl) rfl rfl ?_
  refine aS ?_
  refine aI ?_
  refine l_callS (B := [_]) (L := L) (g_askG (trR nn n2 l2 (a + z.1 + 1) e) 124 z.2 t gx oa on oc o f (by omega) (by omega) (by omega) (by omega) (by omega) (by omega) (by omega) (by omega) ho) hW en84 hP rfl rfl rfl rfl ?_
  rintro _ _ W ⟨rfl, rfl⟩ hW
  refine l_split ?_ ?_
  ·intro hc2
   refine l_end (n_then ?_)
   refine c_true rfl ?_
   refine c_seq (c_reg ?_)
   refine bB ?_
   refine l_end (n_then (c_ret (r_block (r_then (r_then (r_block (r_then ?_)))))))
   refine ret_tmp (v := .bool _) rfl rfl ?_
   have e : seenN o f (2 * nn + 1) q a = (askd z.2 o f, true, a + z.1 + 1) := by rw [hsn, show (2 * nn + 1) - z.1 = ((2 * nn + 1) - z.1 - 1) + 1 by omega, seenN_yes hc2]
   exact ⟨_, [_], rfl, ⟨by rw [e], by rw [e]⟩, hW⟩
  ·intro hc2
   refine l_end (n_then ?_)
   refine c_false rfl ?_
   refine c_skip (n_block (n_then (c_reg ?_)))
   refine l_val (r_addN (n := 1) rfl rfl rfl (by omega)) rfl rfl ?_
   refine aI ?_
   refine l_end (n_then ?_)
   exact loop_next (z.1 + 1, askd z.2 o f) (by kernel_rfl) hW ⟨by simp only; omega, by simp only; exact ha.ask o f, by simp only; rw [hsn, show (2 * nn + 1) - z.1 = ((2 * nn + 1) - (z.1 + 1)) + 1 by omega, seenN_no hc2]; rfl⟩ (by simp only; omega)
 ·intro hc1
  replace hc1 := of_decide_eq_false hc1
  refine l_end (n_then (c_seq ?_))
  refine c_false rfl ?_
  refine c_exit (x_then (x_then ?_))
  refine x_hit ?_
  refine n_then (c_seq (c_reg ?_))
  refine bB ?_
  refine l_end (n_then (c_ret ?_))
  refine ret_tmp (v := .bool _) rfl rfl ?_
  have e : seenN o f (2 * nn + 1) q a = (z.2, false, a + z.1) := by rw [hsn, show (2 * nn + 1) - z.1 = 0 by omega, seenN_zero]
  exact ⟨_, [_], rfl, ⟨by rw [e], by rw [e]⟩, hW⟩

end Go.Proofs.YtoegpalacppllaaGreat

/- Splits, by the program. -/
namespace Go.Proofs.YtoegpalacppllaaGreat
open Go.RowKit Pl
open Tr Hn
set_option maxRecDepth 10000 in
/-- headend/cover.Split$1 -/
theorem g_Split1 (p q r t : Int) : GivesX Tryz.prog 148 [.int .i64 p, .int .i64 q, .int .i64 r, .int .i64 t].toArray (fun _ => True) (fun u Bs => ∃ g, u = .tuple #[.slice (some ⟨g, 0, none⟩) 2 2, .int .i64 0] ∧ Bs = [⟨g, [.int .i64 p, .int .i64 q, .int .i64 r, .int .i64 t], 64⟩]) := by
 refine givesX_of Tryz.func148 rfl (bs := [.int .i64 p, .int .i64 q, .int .i64 r, .int .i64 t, undef, undef, undef, undef, undef, undef, undef, undef, undef, undef, undef, undef, undef]) rfl ?_
 intro w hP hW
 refine c_seq (c_reg ?_)
 refine bS ?_
 refine bI ?_
 refine l_end (n_then (c_seq (c_reg ?_)))
 refine aI ?_
 refine aI ?_
 refine l_val (r_build (ps := [(0, .int _ _), (1, .int _ _)]) (bld64_0_1 _ _) rfl rfl) rfl rfl ?_
 refine aI ?_
 refine aI ?_
 refine l_val (r_build (ps := [(0, .int _ _), (1, .int _ _)]) (bld64_0_1 _ _) rfl rfl) rfl rfl ?_
 refine l_buildSliceF hW (bsl33_2_0_1 _ _ _ _) rfl rfl rfl rfl ?_
 intro gs W hW
 refine bS ?_
 refine bI ?_
 refine l_end (n_then (c_ret ?_))
 refine ret_tmp2 rfl rfl rfl ?_
 exact ⟨_, _, rfl, ⟨gs, rfl, rfl⟩, hW⟩

set_option maxRecDepth 10000 in
/-- (headend/cover.node).sibling -/
theorem g_psibling (v : Nat) (hv : v < 128) : Gives Tryz.prog 55 [.int .i64 (v : Int)].toArray (.int .i64 ((sib v : Nat) : Int)) := by
 refine gives_of Tryz.func55 rfl (bs := [.int .i64 (v : Int), undef, undef, undef, undef]) rfl ?_
 intro w hW
 refine c_seq (c_reg ?_)
 refine bI ?_
 refine l_end (n_then (c_seq (c_reg ?_)))
 refine aI ?_
 refine l_val (r_xorS rfl rfl rfl hv) rfl rfl ?_
 refine bI ?_
 refine l_end (n_then (c_ret ?_))
 refine ret_tmp (v := .int .i64 ((sib v : Nat) : Int)) rfl ?_ ⟨rfl, hW.below⟩
 rfl

set_option maxRecDepth 10000 in
/-- headend/cover.Split -/
theorem g_SplitN (s : Sc) (v x : Nat) (hs : schB s = true) (hsx : subB s v x = true) (h1 : (membersN s v x (p2 s.d.toNat)).length ≠ 1) : GivesX Tryz.prog 107 [.agg [.int .u8 s.k, .int .i64 s.d, .int .i64 s.g, .int .u64 s.p, .int .u64 s.q, .int .u64 s.r].toArray, .agg [.int .i64 (v : Int), .int .i64 (x : Int)].toArray].toArray (fun _ => True) (fun u Bs => ∃ a c, u = .tuple #[.slice a 2 c, .int .i64 0] ∧ OwnSl 64 2 a 2 c (sl2 (splitV s v x)) Bs) := by
 refine givesX_of Tryz.func107 rfl (bs := [.agg [.int .u8 s.k, .int .i64 s.d, .int .i64 s.g, .int .u64 s.p, .int .u64 s.q, .int .u64 s.r].toArray, .agg [.int .i64 (v : Int), .int .i64 (x : Int)].toArray, undef, undef, undef, undef, undef, undef, undef, undef, undef, undef, undef, undef, undef, undef, undef, undef, undef, undef, undef, undef, undef, undef, undef, undef, undef, undef, undef, undef, undef, undef, undef, undef, undef, undef, undef, undef, undef, undef, undef, undef, undef, undef, undef, undef, undef, undef, undef, undef, undef, undef, undef, undef, undef, undef, undef, undef, undef, undef, undef, undef, undef, undef, undef, undef, undef, undef, undef, undef, undef, undef, undef, undef, undef, undef, undef, undef, undef, undef, undef, undef, undef, undef, undef, undef, undef, undef, undef, undef, undef, undef, undef, undef]) rfl ?_
 intro w hP hW
 obtain ⟨k1, k3, d0, d6, -⟩ := schB_iff.1 hs
 obtain ⟨hx1, hx2, hx3, hx4⟩ := sub_x d6 hsx
 obtain ⟨p1, p2', p3, p4⟩ := sub_parts hsx
 refine c_seq (c_reg ?_)
 refine xB hW ?_
 intro g1 W hW
 refine xB hW ?_
 intro g2 W hW
 refine bS ?_
 refine bI ?_
 refine l_end (n_then (c_seq (c_reg ?_)))
 refine dA hW 1 tyA26 ?_
 refine dA hW 0 tyA64 ?_
 refine l_buildSliceF hW (bsl33_1_0 _ _) rfl rfl rfl rfl ?_
 intro gb W hW
 refine l_callR hW (g_enter s (some ⟨gb, 0, none⟩) 1 1 [((v : Int), (x : Int))] hs (by simp)) en51 (RdB.one hW 0 rfl) rfl rfl rfl rfl ?_
 intro W hW
 obtain ⟨ee, hee⟩ : ∃ ee, ee = entE s [((v : Int), (x : Int))] := ⟨_, rfl⟩
 have he0 : ee = 0 := hee.trans ((entE_one s v x).trans (by rw [hsx]; rfl))
 rw [← hee]
 refine l_val (r_move (v := .tuple _) rfl rfl) rfl rfl ?_
 refine l_val (r_extract (v := .agg _) rfl rfl rfl) rfl rfl ?_
 refine l_val (r_extract (v := .int _ _) rfl rfl rfl) rfl rfl ?_
 refine l_alloc hW tyZ106 rfl rfl rfl ?_
 intro g3 W hW
 refine l_storeA hW 0 tyA106 rfl rfl rfl rfl rfl rfl rfl (entT_len _ _) (entT_one _ _) ?_
 intro W hW
 refine bI ?_
 refine l_end (n_then (c_seq (c_seq (c_reg ?_))))
 refine aI ?_
 refine l_val (r_neq rfl rfl rfl rfl) rfl rfl ?_
 refine l_split ?_ ?_
 ·intro hc1
  replace hc1 := of_decide_eq_true hc1
  omega
 ·intro hc1
  replace hc1 := of_decide_eq_false hc1
  have htt : entT s [((v : Int), (x : Int))] = [.int .u8 s.k, .int .i64 s.d, .int .i64 (strideN s.d : Int)] := entT_yes (by rw [← hee]; omega)
  replace hW := (show Cl _ (⟨_, entT s [((v : Int), (x : Int))], _⟩ :: _) _ from hW)
  rw [htt] at hW
  refine l_end (n_then ?_)
  refine c_false rfl ?_
  refine c_skip (n_then (c_seq (c_seq (c_reg ?_))))
  refine dA hW 0 tyA106 ?_
  refine dA hW 2 tyA64 ?_
  refine l_callX hW (g_pmembers s v x d0 d6 hx1 hx2 hx3 hx4) en89 trivial rfl rfl rfl rfl ?_
  rintro _ BM W ⟨am, cm, rfl, hOM⟩ hW
  refine l_val (r_lenSlice Tryz.underlying27 rfl rfl) rfl rfl ?_
  refine l_val (r_eqlN (n := 1) rfl rfl rfl rfl) rfl rfl ?_
  refine l_split ?_ ?_
  ·intro hc2
   replace hc2 := of_decide_eq_true hc2
   omega
  ·intro hc2
   replace hc2 := of_decide_eq_false hc2
   refine l_end (n_then ?_)
   refine c_false rfl ?_
   refine c_skip (n_then (c_seq (c_reg ?_)))
   refine l_val (r_assign (v := .func _ _ _) rfl rfl) rfl rfl ?_
   refine l_end (n_then (c_seq (c_block (c_seq (c_reg ?_)))))
   refine l_val (r_fieldAddr 0 Tryz.underlying106 rfl tyC5.size rfl rfl rfl) rfl rfl ?_
   refine dC hW 0 tyC5 ?_
   refine l_val (r_eql rfl rfl rfl rfl) rfl rfl ?_
   refine l_split ?_ ?_
   ·intro hc3
    replace hc3 := of_decide_eq_true hc3
    refine bB ?_
    refine l_end (n_then ?_)
    refine c_true rfl ?_
    refine c_seq (c_reg ?_)
    refine l_val (r_move (v := .func _ _ _) rfl rfl) rfl rfl ?_
    refine l_val (r_fieldAddr 0 Tryz.underlying64 rfl tyC3.size rfl rfl rfl) rfl rfl ?_
    refine dC hW 2 tyC3 ?_
    refine l_val (r_mulN (m := 2) rfl rfl rfl (by omega)) rfl rfl ?_
    refine l_val (r_fieldAddr 0 Tryz.underlying64 rfl tyC3.size rfl rfl rfl) rfl rfl ?_
    refine dC hW 2 tyC3 ?_
    refine l_val (r_mulN (m := 2) rfl rfl rfl (by omega)) rfl rfl ?_
    refine l_val (r_addN (n := 1) rfl rfl rfl (by omega)) rfl rfl ?_
    refine l_callVX hW (args := [.int .i64 ((2 * v : Nat) : Int), .int .i64 0, .int .i64 ((2 * v + 1 : Nat) : Int), .int .i64 0]) (cap := []) (g_Split1 _ _ _ _) en148 trivial rfl rfl rfl rfl rfl ?_
    rintro _ _ W ⟨gs, rfl, rfl⟩ hW
    refine l_val (r_extract (v := .slice _ _ _) rfl rfl rfl) rfl rfl ?_
    refine l_val (r_extract (v := .int _ _) rfl rfl rfl) rfl rfl ?_
    refine bS ?_
    refine bI ?_
    refine l_end (n_then (c_ret (r_block (r_then ?_))))
    refine ret_tmp2 rfl rfl rfl ?_
    have hsp := split_k1 (s := s) (v := v) (w := (x : Int)) (by omega)
    exact ⟨_, [_], rfl, ⟨_, _, rfl, by rw [hsp]; exact OwnSl.full rfl (by unfold maxLen; decide)⟩, hW.sub (List.sublist_append_right _ _)⟩
   ·intro hc3
    replace hc3 := of_decide_eq_false hc3
    refine bB ?_
    refine l_end (n_then ?_)
    refine c_false rfl ?_
    refine c_seq (c_reg ?_)
    refine l_val (r_fieldAddr 1 Tryz.underlying64 rfl tyC3.size rfl rfl rfl) rfl rfl ?_
    refine dC hW 2 tyC3 ?_
    refine l_val (r_eqlN (n := 0) rfl rfl rfl rfl) rfl rfl ?_
    refine l_split ?_ ?_
    ·intro hc4
     replace hc4 := of_decide_eq_true hc4
     refine bB ?_
     refine l_end (n_then ?_)
     refine c_true rfl ?_
     refine c_seq (c_reg ?_)
     refine l_val (r_move (v := .func _ _ _) rfl rfl) rfl rfl ?_
     refine l_callVX hW (args := [.int .i64 1, .int .i64 2, .int .i64 1, .int .i64 3]) (cap := []) (g_Split1 _ _ _ _) en148 trivial rfl rfl rfl rfl rfl ?_
     rintro _ _ W ⟨gs, rfl, rfl⟩ hW
     refine l_val (r_extract (v := .slice _ _ _) rfl rfl rfl) rfl rfl ?_
     refine l_val (r_extract (v := .int _ _) rfl rfl rfl) rfl rfl ?_
     refine bS ?_
     refine bI ?_
     refine l_end (n_then (c_ret (r_block (r_then ?_))))
     refine ret_tmp2 rfl rfl rfl ?_
     obtain rfl : x = 0 := by omega
     have hsp := (show splitV s v ((0 : Nat) : Int) = [(1, 2), (1, 3)] from split_w0 (s := s) (v := (v : Int)) (by omega))
     exact ⟨_, [_], rfl, ⟨_, _, rfl, by rw [hsp]; exact OwnSl.full rfl (by unfold maxLen; decide)⟩, hW.sub (List.sublist_append_right _ _)⟩
    ·intro hc4
     replace hc4 := of_decide_eq_false hc4
     obtain ⟨hwn, hne, hbe, -⟩ := p4 (by omega) (by omega)
     rw [Int.toNat_natCast, Int.toNat_natCast] at hbe
     have hlx := lev_le (v := x) (by omega)
     have hlv := (below_iff.1 hbe).1
     have hlt : lev v < lev x := Nat.lt_of_le_of_ne hlv fun e => by
      have h2 := (below_iff.1 hbe).2
      rw [e, Nat.sub_self] at h2
      exact hne (by rw [show x = v from h2])
     have hcl : sh x (lev x - lev v - 1) < 128 := Nat.lt_of_le_of_lt (sh_le _ _) (by omega)
     have hsl := (sib_all hcl).2.1
     refine bB ?_
     refine l_end (n_then ?_)
     refine c_false rfl ?_
     refine c_skip (n_block (n_then (c_seq ?_)))
     refine c_regY hW [] [.q, .q, .q, .q, .q, .q] [0, 1, 0, 4, 3, 31] (by kernel_rfl) (by kernel_rfl) ?_
     refine y_val (r_fieldAddr 0 Tryz.underlying64 rfl tyC3.size rfl rfl rfl) rfl rfl ?_
     refine y_loadC 2 tyC3 rfl rfl rfl rfl rfl rfl (by decide) ?_
     refine y_val (r_fieldAddr 1 Tryz.underlying64 rfl tyC3.size rfl rfl rfl) rfl rfl ?_
     refine y_loadC 2 tyC3 rfl rfl rfl rfl rfl rfl (by decide) ?_
     refine y_val (r_assign (v := .int _ _) rfl rfl) rfl rfl ?_
     refine y_val (r_assign (v := .int _ _) rfl rfl) rfl rfl ?_
     refine y_end ?_
     intro W hW
     refine n_then (c_seq (c_reg ?_))
     refine aI ?_
     refine aI ?_
     refine l_call hW (g_ptoward v x (by omega) (by omega) (by omega) (by omega) hlt) en110 rfl rfl rfl rfl ?_
     intro W hW
     refine bI ?_
     refine l_end (n_then (c_seq (c_seq (c_reg ?_))))
     refine aI ?_
     refine aI ?_
     refine l_val (r_eqlN rfl rfl rfl rfl) rfl rfl ?_
     refine l_split ?_ ?_
     ·intro hc5
      replace hc5 := of_decide_eq_true hc5
      refine l_end (n_then ?_)
      refine c_true rfl ?_
      refine c_seq (c_reg ?_)
      refine aI ?_
      refine l_call hW (g_psibling _ (by omega)) en55 rfl rfl rfl rfl ?_
      intro W hW
      refine bI ?_
      refine l_end (n_then (c_seq (c_reg ?_)))
      refine l_val (r_move (v := .func _ _ _) rfl rfl) rfl rfl ?_
      refine aI ?_
      refine aI ?_
      refine l_val (r_mulN (m := 2) rfl rfl rfl (by omega)) rfl rfl ?_
      refine aI ?_
      refine aI ?_
      refine l_val (r_mulN (m := 2) rfl rfl rfl (by omega)) rfl rfl ?_
      refine l_val (r_addN (n := 1) rfl rfl rfl (by omega)) rfl rfl ?_
      refine l_callVX hW (args := [.int .i64 ((sib (sh x (lev x - lev v - 1)) : Nat) : Int), .int .i64 ((2 * sib (sh x (lev x - lev v - 1)) : Nat) : Int), .int .i64 ((sib (sh x (lev x - lev v - 1)) : Nat) : Int), .int .i64 ((2 * sib (sh x (lev x - lev v - 1)) + 1 : Nat) : Int)]) (cap := []) (g_Split1 _ _ _ _) en148 trivial rfl rfl rfl rfl rfl ?_
      rintro _ _ W ⟨gs, rfl, rfl⟩ hW
      refine l_val (r_extract (v := .slice _ _ _) rfl rfl rfl) rfl rfl ?_
      refine l_val (r_extract (v := .int _ _) rfl rfl rfl) rfl rfl ?_
      refine bS ?_
      refine bI ?_
      refine l_end (n_then (c_ret (r_then ?_)))
      refine ret_tmp2 rfl rfl rfl ?_
      have hsp := split_s (s := s) (v := v) (x := x) (by omega) (by omega) (by omega)
      exact ⟨_, [_], rfl, ⟨_, _, rfl, by rw [hsp]; exact OwnSl.full rfl (by unfold maxLen; decide)⟩, hW.sub (List.sublist_append_right _ _)⟩
     ·intro hc5
      replace hc5 := of_decide_eq_false hc5
      refine l_end (n_then ?_)
      refine c_false rfl ?_
      refine c_skip (n_then (c_seq (c_seq (c_reg ?_))))
      refine dA hW 0 tyA106 ?_
      refine aI ?_
      refine aI ?_
      refine l_val (r_build (ps := [(0, .int _ _), (1, .int _ _)]) (bld64_0_1 _ _) rfl rfl) rfl rfl ?_
      refine l_call hW (g_psubset s _ _ d0 d6) en71 rfl rfl rfl rfl ?_
      intro W hW
      refine l_split ?_ ?_
      ·intro hc6
       refine l_val (r_not rfl rfl) rfl rfl ?_
       refine l_end (n_then ?_)
       refine c_false rfl ?_
       refine c_skip (n_then (c_seq (c_reg ?_)))
       refine l_val (r_move (v := .func _ _ _) rfl rfl) rfl rfl ?_
       refine l_val (r_fieldAddr 0 Tryz.underlying64 rfl tyC3.size rfl rfl rfl) rfl rfl ?_
       refine dC hW 2 tyC3 ?_
       refine aI ?_
       refine aI ?_
       refine l_val (r_fieldAddr 1 Tryz.underlying64 rfl tyC3.size rfl rfl rfl) rfl rfl ?_
       refine dC hW 2 tyC3 ?_
       refine l_callVX hW (args := [.int .i64 (v : Int), .int .i64 ((sh x (lev x - lev v - 1) : Nat) : Int), .int .i64 ((sh x (lev x - lev v - 1) : Nat) : Int), .int .i64 (x : Int)]) (cap := []) (g_Split1 _ _ _ _) en148 trivial rfl rfl rfl rfl rfl ?_
       rintro _ _ W ⟨gs, rfl, rfl⟩ hW
       refine l_val (r_extract (v := .slice _ _ _) rfl rfl rfl) rfl rfl ?_
       refine l_val (r_extract (v := .int _ _) rfl rfl rfl) rfl rfl ?_
       refine bS ?_
       refine bI ?_
       refine l_end (n_then (c_ret ?_))
       refine ret_tmp2 rfl rfl rfl ?_
       have hsp := split_c (s := s) (v := v) (x := x) (by omega) (by omega) (by omega) hc6
       exact ⟨_, [_], rfl, ⟨_, _, rfl, by rw [hsp]; exact OwnSl.full rfl (by unfold maxLen; decide)⟩, hW.sub (List.sublist_append_right _ _)⟩
      ·intro hc6
       refine l_val (r_not rfl rfl) rfl rfl ?_
       refine l_end (n_then ?_)
       refine c_true rfl ?_
       refine c_reg ?_
       refine dA hW 0 tyA106 ?_
       refine aI ?_
       refine aI ?_
       refine l_call hW (g_pcut s v x (by rcases Nat.lt_or_ge 1 x with h | h; exact h; rw [lev_one h] at hlt; omega) (by omega) hbe hlt) en56 rfl rfl rfl rfl ?_
       intro W hW
       refine bI ?_
       refine l_end (n_then (c_seq (c_reg ?_)))
       refine l_val (r_move (v := .func _ _ _) rfl rfl) rfl rfl ?_
       refine l_val (r_fieldAddr 0 Tryz.underlying64 rfl tyC3.size rfl rfl rfl) rfl rfl ?_
       refine dC hW 2 tyC3 ?_
       refine aI ?_
       refine aI ?_
       refine l_val (r_fieldAddr 1 Tryz.underlying64 rfl tyC3.size rfl rfl rfl) rfl rfl ?_
       refine dC hW 2 tyC3 ?_
       refine l_callVX hW (args := [.int .i64 (v : Int), .int .i64 ((bet s.d x (lev x - lev v - 1) : Nat) : Int), .int .i64 ((bet s.d x (lev x - lev v - 1) : Nat) : Int), .int .i64 (x : Int)]) (cap := []) (g_Split1 _ _ _ _) en148 trivial rfl rfl rfl rfl rfl ?_
       rintro _ _ W ⟨gs, rfl, rfl⟩ hW
       refine l_val (r_extract (v := .slice _ _ _) rfl rfl rfl) rfl rfl ?_
       refine l_val (r_extract (v := .int _ _) rfl rfl rfl) rfl rfl ?_
       refine bS ?_
       refine bI ?_
       refine l_end (n_then (c_ret ?_))
       refine ret_tmp2 rfl rfl rfl ?_
       have hsp := split_b (s := s) (v := v) (x := x) (by omega) (by omega) (by omega) hc6
       exact ⟨_, [_], rfl, ⟨_, _, rfl, by rw [hsp]; exact OwnSl.full rfl (by unfold maxLen; decide)⟩, hW.sub (List.sublist_append_right _ _)⟩

/-- Split, of whole numbers -/
theorem g_Split (s : Sc) (v x : Int) (hs : schB s = true) (hsx : subB s v x = true) (h1 : (membersN s v x (p2 s.d.toNat)).length ≠ 1) : GivesX Tryz.prog 107 [.agg [.int .u8 s.k, .int .i64 s.d, .int .i64 s.g, .int .u64 s.p, .int .u64 s.q, .int .u64 s.r].toArray, .agg [.int .i64 v, .int .i64 x].toArray].toArray (fun _ => True) (fun u Bs => ∃ a c, u = .tuple #[.slice a 2 c, .int .i64 0] ∧ OwnSl 64 2 a 2 c (sl2 (splitV s v x)) Bs) := by
 obtain ⟨hx1, hx2, hx3, hx4⟩ := sub_x (schB_iff.1 hs).2.2.2.1 hsx
 obtain ⟨v', rfl⟩ : ∃ n : Nat, v = n := ⟨v.toNat, by omega⟩
 obtain ⟨x', rfl⟩ : ∃ n : Nat, x = n := ⟨x.toNat, by omega⟩
 exact g_SplitN s v' x' hs hsx h1
end Go.Proofs.YtoegpalacppllaaGreat

/- Copies of elements of many cells, appended zeros where there is no room, an element replaced by two. No function of the program is in sight here. -/
namespace Go.Proofs.YtoegpalacppllaaGreat
open Go.RowKit Pl Tr Hn

/-- cells of a row in which an element is replaced, with room -/
theorem repl_in {cur news : List Value} {n i : Nat} (hn : news.length = 4) (hi : i + 1 < n) (hc : (n + 1) * 2 ≤ cur.length) :
    ((((cur.take ((i + 2) * 2) ++ ((cur.drop ((i + 1) * 2)).take ((n - (i + 1)) * 2)) ++ cur.drop ((i + 2) * 2 + (n - (i + 1)) * 2)).take (i * 2) ++ news ++ (cur.take ((i + 2) * 2) ++ ((cur.drop ((i + 1) * 2)).take ((n - (i + 1)) * 2)) ++ cur.drop ((i + 2) * 2 + (n - (i + 1)) * 2)).drop (i * 2 + 2 * 2))).take ((n + 1) * 2)) = (cur.take (n * 2)).take (i * 2) ++ (news ++ (cur.take (n * 2)).drop ((i + 1) * 2)) := by
  have hT : ((cur.drop ((i + 1) * 2)).take ((n - (i + 1)) * 2)).length = (n - (i + 1)) * 2 := by rw [List.length_take, List.length_drop]; omega
  have h1 : (cur.take ((i + 2) * 2)).length = i * 2 + 2 * 2 := by rw [List.length_take]; omega
  have e1 : (cur.take ((i + 2) * 2) ++ ((cur.drop ((i + 1) * 2)).take ((n - (i + 1)) * 2)) ++ cur.drop ((i + 2) * 2 + (n - (i + 1)) * 2)).take (i * 2) = cur.take (i * 2) := by
    rw [List.append_assoc, List.take_append_of_le_length (by omega), List.take_take]; congr 1; omega
  have e2 : (cur.take ((i + 2) * 2) ++ ((cur.drop ((i + 1) * 2)).take ((n - (i + 1)) * 2)) ++ cur.drop ((i + 2) * 2 + (n - (i + 1)) * 2)).drop (i * 2 + 2 * 2) = ((cur.drop ((i + 1) * 2)).take ((n - (i + 1)) * 2)) ++ cur.drop ((i + 2) * 2 + (n - (i + 1)) * 2) := by
    rw [List.append_assoc, ← h1, List.drop_left]
  rw [e1, e2, List.take_take, show min (i * 2) (n * 2) = i * 2 by omega, List.drop_take, show n * 2 - (i + 1) * 2 = (n - (i + 1)) * 2 by omega]
  have hA : (cur.take (i * 2)).length = i * 2 := by rw [List.length_take]; omega
  rw [show cur.take (i * 2) ++ news ++ (((cur.drop ((i + 1) * 2)).take ((n - (i + 1)) * 2)) ++ cur.drop ((i + 2) * 2 + (n - (i + 1)) * 2)) = (cur.take (i * 2) ++ (news ++ ((cur.drop ((i + 1) * 2)).take ((n - (i + 1)) * 2)))) ++ cur.drop ((i + 2) * 2 + (n - (i + 1)) * 2) by simp only [List.append_assoc]]
  exact List.take_left' (by simp only [List.length_append, hA, hn, hT]; omega)
/-- .. without room -/
theorem repl_out {cur curN news : List Value} {n i : Nat} (hn : news.length = 4) (hi : i + 1 < n) (hc : n * 2 ≤ cur.length) (hN : (n + 1) * 2 ≤ curN.length) (hA : curN.take (i * 2) = cur.take (i * 2)) :
    (((curN.take (i * 2) ++ news ++ curN.drop (i * 2 + 2 * 2)).take ((i + 2) * 2) ++ ((cur.drop ((i + 1) * 2)).take ((n - (i + 1)) * 2)) ++ (curN.take (i * 2) ++ news ++ curN.drop (i * 2 + 2 * 2)).drop ((i + 2) * 2 + (n - (i + 1)) * 2)).take ((n + 1) * 2)) = (cur.take (n * 2)).take (i * 2) ++ (news ++ (cur.take (n * 2)).drop ((i + 1) * 2)) := by
  have hT : ((cur.drop ((i + 1) * 2)).take ((n - (i + 1)) * 2)).length = (n - (i + 1)) * 2 := by rw [List.length_take, List.length_drop]; omega
  have hl : (curN.take (i * 2) ++ news).length = (i + 2) * 2 := by rw [List.length_append, List.length_take, hn]; omega
  have e1 : (curN.take (i * 2) ++ news ++ curN.drop (i * 2 + 2 * 2)).take ((i + 2) * 2) = curN.take (i * 2) ++ news := List.take_left' hl
  rw [e1, hA, List.take_take, show min (i * 2) (n * 2) = i * 2 by omega, List.drop_take, show n * 2 - (i + 1) * 2 = (n - (i + 1)) * 2 by omega]
  have hA2 : (cur.take (i * 2)).length = i * 2 := by rw [List.length_take]; omega
  rw [show cur.take (i * 2) ++ news ++ ((cur.drop ((i + 1) * 2)).take ((n - (i + 1)) * 2)) = cur.take (i * 2) ++ (news ++ ((cur.drop ((i + 1) * 2)).take ((n - (i + 1)) * 2))) by simp only [List.append_assoc]]
  exact List.take_left' (by simp only [List.length_append, hA2, hn, hT]; omega)
/-- the beginning of a slice -/
theorem OwnSl.cutTo {e : TypeId} {g n c i : Nat} {xs cur : List Value} (h : OwnSl e 2 (some ⟨g, 0, none⟩) n c xs [⟨g, cur, e⟩]) (hi : i ≤ n) : OwnSl e 2 (some ⟨g, 0, none⟩) i c (xs.take (i * 2)) [⟨g, cur, e⟩] := by
  have hl := h.1
  rcases h.2 with ⟨h1, _⟩ | ⟨g2, cur2, h1, h2, h3, h4, h5, h6⟩
  · cases h1
  · simp only [Option.some.injEq, Addr.mk.injEq, and_true, List.cons.injEq, Blk.mk.injEq] at h1 h2
    obtain ⟨rfl, rfl⟩ := h2
    refine ⟨by rw [List.length_take]; omega, .inr ⟨g, cur, rfl, rfl, by omega, h4, h5, ?_⟩⟩
    rw [← h6, List.take_take]; congr 1; omega

section
variable {P : Program} {ops : Array Oper} {Q : Exit → Act → World → Prop} {bs : List Value} {us : List (Nat × Value)} {ds : List Deferred} {w0 : Base} {W W' : World} {rest : List Oper} {o : Oper} {L Bs : List Blk} {d : Nat} {v : Value} {r : Option (Option Nat)} {m : Nat}
/-- the built-in copy of elements of many cells into a block of the call's own -/
theorem l_copyN (hW : Cl w0 L W) (p : Nat) {t t2 e sz bytes : Nat} (hE : TyE P t e sz bytes) {x y : Operand} {g i dn dc k c2 j : Nat} {ax : Addr} {cs news : List Value} {ty : TypeId} (hg : o.guard = none) (ho : o.op = .call { callee := .builtin .copy, args := #[x, y], argTypes := #[t, t2] })
    (hx : ev bs us x = .slice (some ⟨g, i, none⟩) dn dc) (hy : ev bs us y = .slice (some ax) k c2) (hd : o.dst = some d) (hp : L[p]? = some ⟨g, cs, ty⟩) (hr : ∀ j u, news[j]? = some u → W.cell? (ax.add j) = some u) (hl : news.length = j * sz) (hj : min k dn = j) (hfit : i + j * sz ≤ cs.length) (h1 : ∀ v ∈ news, v.oneCell' = true)
    (h : ∀ W', Cl w0 (L.set p ⟨g, cs.take i ++ news ++ cs.drop (i + j * sz), ty⟩) W' → LW r m P ops Q rest (fr bs ((d, .int .i64 (j : Int)) :: us) ds) W') : LW r m P ops Q (o :: rest) (fr bs us ds) W := by
  obtain ⟨inf, z, hi, hz, hsz, hby, hzs⟩ := hE.info
  subst hsz
  have hst := splice_setCells (P := P) (hW.at p hp) (i := i) (news := news) (by rw [hl]; exact hfit) h1
  rw [hl] at hst
  have hload : (Builtin.firstCells inf.size j (.slice (some ax) k c2)).run P W = .ok news.toArray W := by
    have hl2 := run_loadCells_list (P := P) W ax news hr
    rw [hl] at hl2
    simp [Builtin.firstCells, hl2]
  refine l_run hg ?_ hd (h _ (hW.setRow p hp _))
  have hmin : Nat.min k dn = j := hj
  unfold execOp
  simp [ho, resolve, invoke, builtin, hx, hy, Builtin.copy_, run_underlying hE.u, Builtin.lenOf, hmin, sizeOf, typeInfo, hi, hload, hst, goInt]
/-- zero values are appended to what has no room for them -/
theorem l_appendZO {t tn e sz bytes n c k : Nat} (hE : TyE P t e sz bytes) (hn : P.underlying tn = some (.int .i64)) (hW : Cl w0 L W) (p : Nat) {g : Nat} {cur : List Value} {ty : TypeId} (hp : L[p]? = some ⟨g, cur, ty⟩) {s x : Operand} (hk : 0 < k) (hfull : c < n + k) (hnl : n * sz ≤ cur.length) (hm : n + k ≤ 4611686018427387904) (hfit : (n + k) * bytes ≤ 140737488355328) (hg : o.guard = none) (ho : o.op = .call { callee := .builtin .append, args := #[s, x], argTypes := #[t, tn] }) (hs : ev bs us s = .slice (some ⟨g, 0, none⟩) n c) (hx : ev bs us x = .int .i64 (k : Int)) (hd : o.dst = some d)
    (h : ∀ gN cN curN W', n + k ≤ cN → cN ≤ maxLen → curN.length = cN * sz → curN.take (n * sz) = cur.take (n * sz) → Cl w0 (⟨gN, curN, e⟩ :: L) W' → LW r m P ops Q rest (fr bs ((d, .slice (some ⟨gN, 0, none⟩) (n + k) cN) :: us) ds) W') : LW r m P ops Q (o :: rest) (fr bs us ds) W := by
  obtain ⟨i, z, hi, hz, hsz, hby, hzs⟩ := hE.info
  have hpos := hE.pos
  subst hsz hby
  have hgW := hW.drew.at p hp
  simp only at hgW
  have hol : (cur.take (n * i.size)).length = n * i.size := by rw [List.length_take]; omega
  have hold : (Builtin.firstCells i.size n (.slice (some ⟨g, 0, none⟩) n c)).run P W.drew = .ok (cur.take (n * i.size)).toArray W.drew := by
    have := run_loadCells_list (P := P) W.drew ⟨g, 0, none⟩ (cur.take (n * i.size)) (fun j u hu => by
      rw [cells_of hgW]
      rw [List.getElem?_take] at hu
      split at hu
      · simpa using hu
      · cases hu)
    rw [hol] at this
    simp [Builtin.firstCells, this]
  have hrun := Go.Lib.run_append_grow_zeros W t tn o.type e i z .i64 .i64 hE.u hn hi hz (some ⟨g, 0, none⟩) n c (cur.take (n * i.size)) hold k hk hpos hfull (by omega) (by have := Nat.mul_le_mul_right i.bytes (show k ≤ n + k by omega); omega) (growslice_fits hfull hfit)
  have hG := grownCap_ge W (n + k) c e
  have hG2 := grownCap_le_maxLen W (n + k) c e (by unfold maxLen; omega)
  have hrun2 : ∀ v W', (Builtin.append_ #[t, tn] o.type #[.slice (some ⟨g, 0, none⟩) n c, .int .i64 (k : Int)]).run P W = .ok v W' → (execOp (ev bs us) o).run P W = .ok (.value v) W' := fun v W' hr => by
    unfold execOp
    simp [ho, resolve, invoke, builtin, hs, hx, hr]
  refine l_run hg (hrun2 _ _ hrun) hd ?_
  have hal := hW.drew.alloc (((cur.take (n * i.size)).toArray ++ Builtin.zeroCells z.cells k ++ Builtin.zeroCells z.cells (grownCap W (n + k) c e - (n + k))) : Array Value).toList e
  rw [Array.toArray_toList] at hal
  refine h W.heap.size _ _ _ hG hG2 ?_ ?_ hal
  · have h3 : (n + k) * i.size + (grownCap W (n + k) c e - (n + k)) * i.size = grownCap W (n + k) c e * i.size := by rw [← Nat.add_mul]; congr 1; omega
    rw [Nat.add_mul] at h3
    simp only [Array.length_toList, Array.size_append, List.size_toArray, hol, size_zeroCells, hzs]
    omega
  · simp only [Array.toList_append, List.append_assoc]
    exact List.take_left' hol
/-- a call of a function that the model itself answers -/
theorem l_callE (hW : Cl w0 L W) {f : FuncId} {xs : Array Operand} {ts : Array TypeId} {args : List Value} (hc : (callFunc f args.toArray).run P W = .ok (.value v) W) (hg : o.guard = none) (ho : o.op = .call { callee := .value (.func f), args := xs, argTypes := ts }) (ha : xs.toList.map (ev bs us) = args) (hd : o.dst = some d)
    (h : Cl w0 L W → LW r m P ops Q rest (fr bs ((d, v) :: us) ds) W) : LW r m P ops Q (o :: rest) (fr bs us ds) W := by
  refine l_run hg ?_ hd (h hW)
  have e : xs.map (ev bs us) = args.toArray := by subst ha; apply Array.ext'; simp only [Array.toList_map]
  unfold execOp
  have e2 : (#[] : Array Value) ++ args.toArray ++ #[] = args.toArray := by simp
  simp only [ho, resolve, e, ev, Deferred.ofValue, Sem.run_bind, Sem.run_pure, Result.andThen_ok, invoke, e2]
  exact hc
theorem apart_run {t e sz tR : Nat} (ht : P.underlying t = some (.slice e)) (hz : ∀ w, (sizeOf e).run P w = .ok sz w) (hW : Cl w0 L W) {p q g gs i la ca lb cb : Nat} {cs cs2 : List Value} {ty ty2 : TypeId} (hpq : q ≠ p) (hp : L[p]? = some ⟨g, cs, ty⟩) (hq : L[q]? = some ⟨gs, cs2, ty2⟩) (hne : cs2 ≠ []) :
    (Extern.SlicesOverlaps.overlaps #[t, t] #[tR] #[.slice (some ⟨g, i, none⟩) la ca, .slice (some ⟨gs, 0, none⟩) lb cb]).run P W = .ok (.bool false) W := by
  have h1 := hW.at p hp
  have h2 := hW.at q hq
  simp only at h1 h2
  refine Go.Lib.run_overlaps_apart W t tR e ht sz hz ⟨g, i, none⟩ ⟨gs, 0, none⟩ la ca lb cb (fun e => apart_at hW.apart hp hq hpq e.symm) ty ty2 cs.length cs2.length ?_ ?_ ?_ ?_ ?_
  · simp [World.shape?, h1]
  · simp [World.shape?, h2]
  · exact fun e => hne (List.eq_nil_of_length_eq_zero e)
  · simp [World.frozen?, h1]
  · simp [World.frozen?, h1]
variable {a : Act}
theorem c_scope {m : Nat} {c : Code} (h : CW none m P c (Exit.noGoto Q) a W) : CW none m P (Code.scope c) Q a W := wp_scope_straight h
theorem c_label {m l : Nat} (h : Q .normal a W) : CW none m P (Code.label l) Q a W := wp_label h
theorem n_scope (h : Q .normal a W) : Exit.noGoto Q .normal a W := h
section
variable {S : List Nat} {ks : List Kd} {ms : List Mk} {V : List (List Value)} {R : Act → St → Prop} {T : List Oper → Act → St → Prop}
/-- a call that makes memory of its own and looks at what another maker has made, and at what is there -/
theorem y_callXs (i j : Nat) {f : FuncId} {xs : Array Operand} {ts : Array TypeId} {X : Value → List Blk → Prop} {z zj : List Value} {kj : Mk} (he : Enters P f)
    (hk : ms[i]? = some ⟨d, fun _ => X⟩) (hV : V[i]? = some z) (hkj : ms[j]? = some kj) (hVj : V[j]? = some zj)
    (hgv : ∀ u Bs L2, Sim S L L2 → kj.X zj u Bs → ∃ args Pre, GivesX P f (List.toArray args) Pre X ∧ (∀ w, Cl w0 (L2 ++ Bs) w → Pre w) ∧ xs.toList.map (ev bs ((kj.d, u) :: us)) = args) (ho : o.op = .call { callee := .value (.func f), args := xs, argTypes := ts })
    (h : lx P ops w0 S ms R T ks rest (fr bs us ds) (L, V)) : lx P ops w0 S ms R T (.mkd i j :: ks) (o :: rest) (fr bs us ds) (L, V) :=
  y_mkd i j hk hV hkj hVj (fun u Bs L2 hs hx w hC => by
    obtain ⟨args, Pre, g, hp, ha⟩ := hgv u Bs L2 hs hx
    refine .inr ⟨f, args.toArray, run_call he ho ha w, ?_⟩
    exact (g w (hp w hC)).mono fun e w' ⟨v, Bs', he, hx, hc⟩ => ⟨v, he, Bs', hx, hC.beside hc⟩) h
/-- loads of what is known of all worlds in which the blocks lie -/
theorem y_loadR {t : TypeId} (ht : TyC P t) {x : Operand} {b i : Nat} (hc : ∀ L2 w, Sim S L L2 → Cl w0 L2 w → w.cell? ⟨b, i, none⟩ = some v) (hw : Region.wanted o (yielded ops (fr bs us ds).tmps) = true) (ho : o.op = .load t x) (hx : ev bs us x = .pointer (some ⟨b, i, none⟩)) (hd : o.dst = some d)
    (h : lx P ops w0 S ms R T ks rest (fr bs ((d, v) :: us) ds) (L, V)) : lx P ops w0 S ms R T (.q :: ks) (o :: rest) (fr bs us ds) (L, V) :=
  ⟨v, (L, V), ⟨fun L2 hs => yields_run hw fun w hC => by
    rw [eval_ev]
    have hc' := hc L2 w hs hC
    unfold execOp
    simp [ho, hx, Instr.loadAt, Instr.sureAddr, loadVar, ht.agg w, hc'], rfl⟩, by simp only [putK, hd, put_st]; exact h⟩
theorem y_loadR2 {t : TypeId} (ht : TyA P t 2) {x : Operand} {b i : Nat} {u0 u1 : Value} (hc : ∀ L2 w, Sim S L L2 → Cl w0 L2 w → w.cell? ⟨b, i + 0, none⟩ = some u0 ∧ w.cell? ⟨b, i + 1, none⟩ = some u1) (hw : Region.wanted o (yielded ops (fr bs us ds).tmps) = true) (ho : o.op = .load t x) (hx : ev bs us x = .pointer (some ⟨b, i, none⟩)) (hd : o.dst = some d)
    (h : lx P ops w0 S ms R T ks rest (fr bs ((d, .agg [u0, u1].toArray) :: us) ds) (L, V)) : lx P ops w0 S ms R T (.q :: ks) (o :: rest) (fr bs us ds) (L, V) :=
  ⟨.agg [u0, u1].toArray, (L, V), ⟨fun L2 hs => yields_run hw fun w hC => by
    rw [eval_ev]
    obtain ⟨h0, h1⟩ := hc L2 w hs hC
    have hl : (loadCells ⟨b, i, none⟩ [u0, u1].length).run P w = .ok [u0, u1].toArray w := run_loadCells_list (P := P) w ⟨b, i, none⟩ [u0, u1] (fun j v hv => by
      rw [Addr.add_lit]
      match j with
      | 0 => simp only [List.getElem?_cons_zero, Option.some.injEq] at hv; subst hv; exact h0
      | 1 => simp only [List.getElem?_cons_succ, List.getElem?_cons_zero, Option.some.injEq] at hv; subst hv; exact h1
      | j + 2 => simp at hv)
    unfold execOp
    simp only [ho, hx, Instr.loadAt, Instr.sureAddr, Sem.run_bind, Sem.run_pure, Result.andThen_ok]
    simp only [List.length_cons, List.length_nil] at hl
    simp [loadVar, ht.agg w, ht.size w, hl], rfl⟩, by simp only [putK, hd, put_st]; exact h⟩
end
theorem RdG.cell {w : World} {b o n c i : Nat} {cs : List Sl} {gs : List (List Int)} {s : Sl} (k : RdG w ⟨some ⟨b, o, none⟩, n, c⟩ cs gs) (hs : cs[i]? = some s) : w.cell? ⟨b, o + i, none⟩ = some s.v := by
  obtain ⟨b', i', ha, hc⟩ := k.rd.rd i s.v (by rw [List.getElem?_map, hs]; rfl)
  simp only [Option.some.injEq, Addr.mk.injEq, and_true] at ha
  obtain ⟨rfl, rfl⟩ := ha
  exact hc
theorem RdB.cells {w : World} {b i n c j : Nat} {l : List (Int × Int)} (k : RdB w ⟨some ⟨b, i, none⟩, n, c⟩ l) (hj : j < l.length) : w.cell? ⟨b, i + j * 2 + 0, none⟩ = some (IV (qn l j)) ∧ w.cell? ⟨b, i + j * 2 + 1, none⟩ = some (IV (qm l j)) := by
  obtain ⟨b', i', ha, hc⟩ := k.ptr (by omega)
  simp only [Option.some.injEq, Addr.mk.injEq, and_true] at ha
  obtain ⟨rfl, rfl⟩ := ha
  exact hc j hj
/-- a tracer at work -/
structure TrP (e : TypeId) (N : Nat) (b0 : Bo) (tot : List Int) (t0 : Ts) (z : TrS) : Prop where
  tin : Tin N b0 tot z.t
  eq : traced N t0 = traced N z.t
  nm : NewI z.n2 z.t.nm z.bn
  ls : OwnSl e 2 z.la z.t.l.length z.lc (sl2 z.t.l) z.bl
theorem pickF {b : Base} {x : Blk} {A B C D E : List Blk} (h : Cl b ([x] ++ ((((A ++ B) ++ C) ++ D) ++ E)) W) : Cl b ((x :: (B ++ C)) ++ A) W := h.pick (D ++ E) (by classical exact List.perm_iff_count.2 fun x => by simp only [List.count_append, List.count_cons, List.count_nil]; omega)
theorem pickI {b : Base} {X A B : List Blk} (h : Cl b ((X ++ B) ++ A) W) : Cl b (((X ++ A) ++ []) ++ B) W := h.perm (by classical exact List.perm_iff_count.2 fun x => by simp only [List.count_append, List.count_nil]; omega)
theorem pickM {b : Base} {X G M : List Blk} (h : Cl b (M ++ (G ++ X)) W) : Cl b (X ++ (G ++ M)) W := h.perm (by classical exact List.perm_iff_count.2 fun x => by simp only [List.count_append]; omega)
/-- the partition's row ahead, behind a naming -/
theorem pickA {b : Base} {X A B C D E G M : List Blk} (h : Cl b ((X ++ ((((A ++ B) ++ C) ++ D) ++ E)) ++ (G ++ M)) W) : Cl b (C ++ (X ++ (A ++ M))) W := h.pick (B ++ (D ++ (E ++ G))) (by classical exact List.perm_iff_count.2 fun x => by simp only [List.count_append]; omega)
/-- .. behind a split -/
theorem pickB {b : Base} {X A B C D E G : List Blk} (h : Cl b (G ++ (X ++ ((((A ++ B) ++ C) ++ D) ++ E))) W) : Cl b (C ++ (X ++ ((A ++ B) ++ G))) W := h.pick (D ++ E) (by classical exact List.perm_iff_count.2 fun x => by simp only [List.count_append]; omega)
theorem pickC {b : Base} {X A B C G : List Blk} (h : Cl b ((X ++ ((A ++ B) ++ G)) ++ C) W) : Cl b (((X ++ A) ++ B) ++ C) W := h.pick G (by classical exact List.perm_iff_count.2 fun x => by simp only [List.count_append]; omega)
end
end Go.Proofs.YtoegpalacppllaaGreat

/- A subset less, or two in its place, by the library. -/
namespace Go.Proofs.YtoegpalacppllaaGreat
open Go.RowKit Pl
open Tr Hn
set_option maxRecDepth 10000 in
/-- slices.Delete[[]headend/api.Subset,headend/api.Subset] -/
theorem g_DeleteB (g n c i : Nat) (cur xs : List Value) (hO : OwnSl 64 2 (some ⟨g, 0, none⟩) n c xs [⟨g, cur, 64⟩]) (hi : i < n) (hone : ∀ v ∈ xs, v.oneCell' = true) : GivesS Tryz.prog 106 [.slice (some ⟨g, 0, none⟩) n c, .int .i64 (i : Int), .int .i64 ((i + 1 : Nat) : Int)].toArray (fun _ _ => True) [⟨g, cur, 64⟩] (fun v B => v = .slice (some ⟨g, 0, none⟩) (n - 1) c ∧ OwnSl 64 2 (some ⟨g, 0, none⟩) (n - 1) c (xs.take (i * 2) ++ xs.drop ((i + 1) * 2)) B) := by
 refine givesS_of Tryz.func106 rfl (bs := [.slice (some ⟨g, 0, none⟩) n c, .int .i64 (i : Int), .int .i64 ((i + 1 : Nat) : Int), undef, undef, undef, undef, undef, undef, undef, undef, undef, undef, undef, undef, undef, undef, undef, undef, undef, undef, undef, undef, undef, undef, undef, undef, undef, undef, undef, undef, undef, undef]) rfl ?_
 intro b L w hP hW
 obtain ⟨hnc, hcm, hcl, hct⟩ : n ≤ c ∧ c ≤ maxLen ∧ cur.length = c * 2 ∧ cur.take (n * 2) = xs := by
  rcases hO.2 with ⟨h, _⟩ | ⟨g2, cur2, h1, h2, h3⟩
  ·cases h
  ·simp only [Option.some.injEq, Addr.mk.injEq, and_true, List.cons.injEq, Blk.mk.injEq] at h1 h2
   obtain ⟨rfl, rfl⟩ := h2
   exact h3
 obtain ⟨j, hj⟩ : ∃ j, (if c = i + 1 then 0 else 0 + (i + 1) * 2) = j := ⟨_, rfl⟩
 have hj2 : n - (i + 1) = 0 ∨ j = (i + 1) * 2 := by
  by_cases hc : c = i + 1
  ·exact .inl (by omega)
  ·rw [if_neg hc] at hj; exact .inr (by omega)
 have hxl := congrArg List.length hct
 rw [List.length_take] at hxl
 refine c_seq (c_reg ?_)
 refine bS ?_
 refine l_end (n_then (c_seq (c_reg ?_)))
 refine aS ?_
 refine aI ?_
 refine aI ?_
 refine aS ?_
 refine l_val (r_lenSlice Tryz.underlying33 rfl rfl) rfl rfl ?_
 refine l_val (r_slice3 (l := i) (h := i + 1) (q := n) Tryz.underlying33 tyA64.size rfl rfl rfl rfl rfl (by omega) (by omega) (by omega) rfl) rfl rfl ?_
 refine l_end (n_then (c_seq (c_seq (c_reg ?_))))
 refine aI ?_
 refine aI ?_
 refine l_val (r_eqlN (b := false) rfl rfl rfl (decide_eq_false (by omega))) rfl rfl ?_
 refine l_end (n_then ?_)
 refine c_false rfl ?_
 refine c_skip (n_then (c_seq (c_reg ?_)))
 refine aS ?_
 refine l_val (r_lenSlice Tryz.underlying33 rfl rfl) rfl rfl ?_
 refine bI ?_
 refine l_end (n_then (c_seq ?_))
 refine c_regM hW [] [.q, .q, .q, .q, .q, .q, .tail, .tail] [] [] [] [0, 0, 3, 0, 0, 24, 63, 127] (by kernel_rfl) (by kernel_rfl) rfl (by kernel_rfl) ?_
 refine yS ?_
 refine yI ?_
 refine y_val (r_sliceToN (h := i) Tryz.underlying33 tyA64.size rfl rfl rfl (by omega)) rfl rfl ?_
 refine yS ?_
 refine yI ?_
 refine y_val (r_sliceFromN (l := i + 1) Tryz.underlying33 tyA64.size rfl rfl rfl (by omega) hj) rfl rfl ?_
 refine y_tail ?_
 intro W hW
 refine l_appendIn tyE33 (show Cl _ (_ :: _) _ from hW) rfl rfl rfl rfl rfl (by omega) hcl (by rcases hj2 with h | h <;> omega) (fun u hu => hone u ?_) ?_
 ·rw [← hct]
  rcases hj2 with h | h
  ·rw [h] at hu; simp at hu
  ·subst h
   have hd := List.drop_take (i := (i + 1) * 2) (j := n * 2) (l := cur)
   rw [show n * 2 - (i + 1) * 2 = (n - (i + 1)) * 2 by omega] at hd
   rw [← hd] at hu
   exact List.mem_of_mem_drop hu
 intro W hW
 refine bS ?_
 refine l_end (n_then (c_seq (c_reg ?_)))
 refine aS ?_
 refine aS ?_
 refine l_val (r_lenSlice Tryz.underlying33 rfl rfl) rfl rfl ?_
 refine aI ?_
 refine l_val (r_sliceN (l := i + (n - (i + 1))) (h := n) (j := (i + (n - (i + 1))) * 2) Tryz.underlying33 tyA64.size rfl rfl rfl rfl (by omega) (by omega) (by rw [if_neg (by omega)]; omega)) rfl rfl ?_
 refine l_clear (sz := 2) (z := .agg z64.toArray) Tryz.underlying33 tyZ64 rfl (by simp [Value.cells, Value.oneCell']) (by decide) (show Cl _ (_ :: _) _ from hW) rfl rfl rfl rfl (by omega) (by simp only [List.length_append, List.length_take, List.length_drop]; omega) ?_
 intro zs W hzs hW
 refine l_end (n_then (c_seq (c_reg ?_)))
 refine aS ?_
 refine bS ?_
 refine l_end (n_then (c_ret ?_))
 refine ret_tmp (v := .slice _ _ _) rfl rfl ?_
 obtain ⟨hc1, hc2⟩ := del_cells hcl hnc hi hct hj2 hzs
 refine ⟨_, [_], rfl, ⟨congrArg (fun k => Value.slice (some ⟨g, 0, none⟩) k c) (by omega), ?_, .inr ⟨g, _, rfl, rfl, by omega, hcm, hc1, hc2⟩⟩, hW⟩
 rw [List.length_append, List.length_take, List.length_drop]; omega

theorem mem_mid {cur : List Value} {n i : Nat} {u : Value} (hi : i < n) (h : u ∈ (cur.drop ((i + 1) * 2)).take ((n - (i + 1)) * 2)) : u ∈ cur.take (n * 2) := by
 have hd := List.drop_take (i := (i + 1) * 2) (j := n * 2) (l := cur)
 rw [show n * 2 - (i + 1) * 2 = (n - (i + 1)) * 2 by omega] at hd
 rw [← hd] at h
 exact List.mem_of_mem_drop h
theorem get_mid {cur : List Value} {k m j : Nat} {u : Value} (h : ((cur.drop k).take m)[j]? = some u) : cur[k + j]? = some u := by
 rw [List.getElem?_take] at h
 split at h
 ·rwa [List.getElem?_drop] at h
 ·cases h
set_option maxRecDepth 10000 in
/-- slices.Replace[[]headend/api.Subset,headend/api.Subset] -/
theorem g_ReplaceB (g n c i gs cS : Nat) (cur xs curS news : List Value) (hO : OwnSl 64 2 (some ⟨g, 0, none⟩) n c xs [⟨g, cur, 64⟩]) (hi : i < n) (hone : ∀ v ∈ xs, v.oneCell' = true) (hS : curS.take 4 = news) (hSl : news.length = 4) (hone2 : ∀ v ∈ news, v.oneCell' = true) (hn : n ≤ 100) : GivesS Tryz.prog 108 [.slice (some ⟨g, 0, none⟩) n c, .int .i64 (i : Int), .int .i64 ((i + 1 : Nat) : Int), .slice (some ⟨gs, 0, none⟩) 2 cS].toArray (fun _ L => (⟨gs, curS, 64⟩ : Blk) ∈ L) [⟨g, cur, 64⟩] (fun v B => ∃ a c2, v = .slice a (n + 1) c2 ∧ OwnSl 64 2 a (n + 1) c2 (xs.take (i * 2) ++ (news ++ xs.drop ((i + 1) * 2))) B) := by
 refine givesS_of Tryz.func108 rfl (bs := [.slice (some ⟨g, 0, none⟩) n c, .int .i64 (i : Int), .int .i64 ((i + 1 : Nat) : Int), .slice (some ⟨gs, 0, none⟩) 2 cS, undef, undef, undef, undef, undef, undef, undef, undef, undef, undef, undef, undef, undef, undef, undef, undef, undef, undef, undef, undef, undef, undef, undef, undef, undef, undef, undef, undef, undef, undef, undef, undef, undef, undef, undef, undef, undef, undef, undef, undef, undef, undef, undef, undef, undef, undef, undef, undef, undef, undef, undef, undef, undef, undef, undef, undef, undef, undef, undef, undef, undef, undef, undef, undef, undef, undef, undef, undef, undef, undef, undef, undef, undef, undef, undef, undef, undef, undef, undef, undef, undef, undef, undef, undef, undef, undef, undef, undef, undef, undef, undef, undef, undef, undef, undef, undef, undef, undef, undef, undef, undef, undef, undef, undef, undef, undef, undef, undef, undef, undef, undef, undef, undef, undef, undef, undef, undef, undef, undef, undef, undef, undef, undef, undef, undef, undef, undef, undef, undef, undef, undef, undef, undef, undef, undef, undef, undef, undef, undef, undef, undef, undef, undef, undef, undef, undef, undef, undef, undef, undef, undef, undef, undef, undef, undef, undef, undef, undef, undef, undef, undef, undef, undef, undef, undef, undef, undef, undef, undef, undef, undef, undef, undef, undef, undef, undef, undef, undef, undef, undef, undef, undef, undef, undef, undef, undef, undef, undef, undef, undef, undef, undef, undef, undef, undef, undef, undef, undef, undef, undef, undef, undef, undef, undef, undef, undef, undef, undef, undef, undef, undef, undef, undef, undef, undef, undef, undef, undef, undef, undef]) rfl ?_
 intro b L w hP hW
 obtain ⟨hnc, hcm, hcl, hct⟩ : n ≤ c ∧ c ≤ maxLen ∧ cur.length = c * 2 ∧ cur.take (n * 2) = xs := by
  rcases hO.2 with ⟨h, _⟩ | ⟨g2, cur2, h1, h2, h3⟩
  ·cases h
  ·simp only [Option.some.injEq, Addr.mk.injEq, and_true, List.cons.injEq, Blk.mk.injEq] at h1 h2
   obtain ⟨rfl, rfl⟩ := h2
   exact h3
 have hxl := hO.1
 have hnS : curS ≠ [] := fun e => by rw [e] at hS; rw [← hS] at hSl; simp at hSl
 obtain ⟨pS, hpS⟩ := List.getElem?_of_mem hP
 refine c_seq (c_reg ?_)
 refine bS ?_
 refine l_end (n_then (c_seq (c_reg ?_)))
 refine aS ?_
 refine aI ?_
 refine aI ?_
 refine l_val (r_sliceN (l := i) (h := i + 1) (j := i * 2) Tryz.underlying33 tyA64.size rfl rfl rfl rfl (by omega) (by omega) (by rw [if_neg (by omega)]; omega)) rfl rfl ?_
 refine l_end (n_then (c_seq (c_seq (c_reg ?_))))
 refine aI ?_
 refine aI ?_
 refine l_val (r_eqlN (b := false) rfl rfl rfl (decide_eq_false (by omega))) rfl rfl ?_
 refine l_end (n_then ?_)
 refine c_false rfl ?_
 refine c_skip (n_then (c_seq (c_seq (c_reg ?_))))
 refine aI ?_
 refine aS ?_
 refine l_val (r_lenSlice Tryz.underlying33 rfl rfl) rfl rfl ?_
 refine l_val (r_eqlN rfl rfl rfl rfl) rfl rfl ?_
 refine l_split ?_ ?_
 ·intro hc1
  replace hc1 := of_decide_eq_true hc1
  refine l_end (n_then ?_)
  refine c_true rfl ?_
  refine c_seq (c_reg ?_)
  refine aS ?_
  refine aI ?_
  refine l_val (r_sliceToN (h := i) Tryz.underlying33 tyA64.size rfl rfl rfl (by omega)) rfl rfl ?_
  refine aS ?_
  refine l_append tyE33 (L := L) (hO.cutTo (i := i) (by omega)) (show Cl _ (L ++ [_]) _ from (show Cl _ ([_] ++ L) _ from hW).perm List.perm_append_comm) (news := news) (N := n + 1) (by omega) rfl rfl rfl rfl rfl (by omega) (fun j u hu => by rw [cells_of (hW.at (pS + 1) hpS), Nat.zero_add]; exact take_get hS hu) hone2 (by unfold maxLen; omega) (by omega) ?_
  intro a1 c1 Bs1 W hO1 hW
  refine bS ?_
  refine l_end (n_then (c_seq (c_seq (c_reg ?_))))
  refine aS ?_
  refine l_val (r_lenSlice Tryz.underlying33 rfl rfl) rfl rfl ?_
  refine aS ?_
  refine l_val (r_lenSlice Tryz.underlying33 rfl rfl) rfl rfl ?_
  refine l_val (r_lssN (b := false) rfl rfl rfl (decide_eq_false (by omega))) rfl rfl ?_
  refine l_end (n_then ?_)
  refine c_false rfl ?_
  refine c_skip (n_then (c_seq (c_reg ?_)))
  refine aS ?_
  refine bS ?_
  refine l_end (n_then (c_ret (r_then ?_)))
  refine ret_tmp (v := .slice _ _ _) rfl rfl ?_
  exact ⟨_, Bs1, rfl, ⟨a1, c1, rfl, hO1.castx rfl (by rw [List.drop_of_length_le (l := xs) (by omega), List.append_nil])⟩, hW.perm List.perm_append_comm⟩
 ·intro hc1
  replace hc1 := of_decide_eq_false hc1
  refine l_end (n_then ?_)
  refine c_false rfl ?_
  refine c_skip (n_then (c_seq ?_))
  refine c_regY hW [] [.q, .q, .q, .q, .q, .q, .q, .q, .q, .q, .q, .q, .q] [0, 0, 3, 7, 0, 16, 63, 0, 0, 384, 896, 2047, 4095] (by kernel_rfl) (by kernel_rfl) ?_
  refine yS ?_
  refine yI ?_
  refine y_val (r_sliceToN (h := i) Tryz.underlying33 tyA64.size rfl rfl rfl (by omega)) rfl rfl ?_
  refine y_val (r_lenSlice Tryz.underlying33 rfl rfl) rfl rfl ?_
  refine yS ?_
  refine y_val (r_lenSlice Tryz.underlying33 rfl rfl) rfl rfl ?_
  refine y_val (r_addN rfl rfl rfl (by omega)) rfl rfl ?_
  refine yS ?_
  refine yI ?_
  refine y_val (r_sliceFromN (l := i + 1) (j := (i + 1) * 2) Tryz.underlying33 tyA64.size rfl rfl rfl (by omega) (by rw [if_neg (by omega)]; omega)) rfl rfl ?_
  refine y_val (r_lenSlice Tryz.underlying33 rfl rfl) rfl rfl ?_
  refine y_val (r_addN rfl rfl rfl (by omega)) rfl rfl ?_
  refine y_val (r_assign (v := .int _ _) rfl rfl) rfl rfl ?_
  refine y_end ?_
  intro W hW
  refine n_then (c_seq (c_seq (c_reg ?_)))
  refine aI ?_
  refine aS ?_
  refine l_val (r_cap Tryz.underlying33 rfl rfl) rfl rfl ?_
  refine l_val (r_gtrN rfl rfl rfl rfl) rfl rfl ?_
  refine l_split ?_ ?_
  ·intro hc2
   replace hc2 := of_decide_eq_true hc2
   refine l_end (n_then ?_)
   refine c_true rfl ?_
   refine c_seq (c_reg ?_)
   refine aS ?_
   refine aI ?_
   refine l_val (r_sliceToN (h := i) Tryz.underlying33 tyA64.size rfl rfl rfl (by omega)) rfl rfl ?_
   refine aI ?_
   refine aI ?_
   refine l_val (r_subN rfl rfl rfl (by omega) (by omega)) rfl rfl ?_
   refine l_appendZO (k := n + 1 - i) tyE33 Tryz.underlying3 hW 0 rfl (by omega) (by omega) (by omega) (by omega) (by omega) rfl rfl rfl (congrArg (fun k : Nat => Value.int .i64 (k : Int)) (show _ = n + 1 - i by omega)) rfl ?_
   intro gN cN curN W hN1 hN2 hN3 hN4 hW
   refine bS ?_
   refine l_end (n_then (c_seq (c_reg ?_)))
   refine aS ?_
   refine aI ?_
   refine l_val (r_sliceFromN (l := i) (j := (i) * 2) Tryz.underlying33 tyA64.size rfl rfl rfl (by omega) (by rw [if_neg (by omega)]; omega)) rfl rfl ?_
   refine aS ?_
   refine l_copyN hW 0 tyE33 (news := news) (j := 2) rfl rfl rfl rfl rfl rfl (fun j u hu => by rw [cells_of (hW.at (pS + 2) hpS), Nat.zero_add]; exact take_get hS hu) hSl (by omega) (by omega) hone2 ?_
   intro W hW
   refine l_end (n_then (c_seq ?_))
   refine c_regM hW [] [.q, .q, .q, .q, .q, .q, .q, .q, .q, .tail] [] [] [] [0, 0, 0, 4, 14, 31, 0, 0, 192, 511] (by kernel_rfl) (by kernel_rfl) rfl (by kernel_rfl) ?_
   refine yS ?_
   refine yI ?_
   refine yS ?_
   refine y_val (r_lenSlice Tryz.underlying33 rfl rfl) rfl rfl ?_
   refine y_val (r_addN rfl rfl rfl (by omega)) rfl rfl ?_
   refine y_val (r_sliceFromN (l := i + 2) (j := (i + 2) * 2) Tryz.underlying33 tyA64.size rfl rfl rfl (by omega) (by rw [if_neg (by omega)]; omega)) rfl rfl ?_
   refine yS ?_
   refine yI ?_
   refine y_val (r_sliceFromN (l := i + 1) (j := (i + 1) * 2) Tryz.underlying33 tyA64.size rfl rfl rfl (by omega) (by rw [if_neg (by omega)]; omega)) rfl rfl ?_
   refine y_tail ?_
   intro W hW
   refine l_copyN hW 0 tyE33 (news := ((cur.drop ((i + 1) * 2)).take ((n - (i + 1)) * 2))) (j := (n - (i + 1))) rfl rfl rfl rfl rfl rfl (fun j u hu => by rw [cells_of (hW.at 1 rfl)]; exact get_mid hu) (by rw [List.length_take, List.length_drop]; omega) (by omega) (by simp only [List.length_append, List.length_take, List.length_drop]; omega) (fun u hu => hone u (by rw [← hct]; exact mem_mid hi hu)) ?_
   intro W hW
   refine l_end (n_then (c_seq (c_reg ?_)))
   refine aS ?_
   refine bS ?_
   refine l_end (n_then (c_ret (r_then ?_)))
   refine ret_tmp (v := .slice _ _ _) rfl rfl ?_
   refine ⟨_, [_], rfl, ⟨some ⟨gN, 0, none⟩, cN, congrArg (fun k => Value.slice (some ⟨gN, 0, none⟩) k cN) (show (i + (n + 1 - i)) = n + 1 by omega), ?_, .inr ⟨gN, _, rfl, rfl, by omega, hN2, ?_, ?_⟩⟩, (show Cl _ (_ :: _ :: L) _ from hW).sub (.cons_cons _ (List.sublist_cons_self _ L))⟩
   ·rw [List.length_append, List.length_append, List.length_take, List.length_drop]; omega
   ·simp only [List.length_append, List.length_take, List.length_drop]; omega
   ·rw [repl_out hSl (by omega) (by omega) (by omega) hN4, hct]
  ·intro hc2
   replace hc2 := of_decide_eq_false hc2
   refine l_end (n_then ?_)
   refine c_false rfl ?_
   refine c_skip (n_then (c_seq (c_reg ?_)))
   refine aS ?_
   refine aI ?_
   refine l_val (r_sliceToN (h := i + 2 + (n - (i + 1))) Tryz.underlying33 tyA64.size rfl rfl rfl (by omega)) rfl rfl ?_
   refine bS ?_
   refine l_end (n_then (c_seq (c_seq (c_reg ?_))))
   refine aI ?_
   refine aS ?_
   refine l_val (r_lenSlice Tryz.underlying33 rfl rfl) rfl rfl ?_
   refine l_val (r_addN rfl rfl rfl (by omega)) rfl rfl ?_
   refine aI ?_
   refine l_val (r_leqN (b := false) rfl rfl rfl (decide_eq_false (by omega))) rfl rfl ?_
   refine l_end (n_then ?_)
   refine c_false rfl ?_
   refine c_skip (n_then (c_seq (c_seq (c_reg ?_))))
   refine aS ?_
   refine aI ?_
   refine aS ?_
   refine l_val (r_lenSlice Tryz.underlying33 rfl rfl) rfl rfl ?_
   refine l_val (r_addN rfl rfl rfl (by omega)) rfl rfl ?_
   refine l_val (r_sliceFromN (l := i + 2) (j := (i + 2) * 2) Tryz.underlying33 tyA64.size rfl rfl rfl (by omega) (by rw [if_neg (by omega)]; omega)) rfl rfl ?_
   refine aS ?_
   refine l_callE hW (v := .bool false) (args := [.slice (some ⟨g, (i + 2) * 2, none⟩) (i + 2 + (n - (i + 1)) - (i + 2)) (c - (i + 2)), .slice (some ⟨gs, 0, none⟩) 2 cS]) (by rw [run_callFunc_extern Tryz.func150 (by kernel_rfl) (by kernel_rfl) (by kernel_rfl) (e := Go.Extern.SlicesOverlaps.overlaps #[33, 33] #[4]) (by kernel_rfl), apart_run Tryz.underlying33 tyA64.size hW (p := 0) (q := pS + 1) (by omega) rfl hpS hnS]; rfl) rfl rfl rfl rfl ?_
   intro hW
   refine l_val (r_not rfl rfl) rfl rfl ?_
   refine l_end (n_then ?_)
   refine c_true rfl ?_
   refine c_seq ?_
   refine c_regM hW [] [.q, .q, .q, .q, .q, .q, .q, .q, .q, .tail] [] [] [] [0, 0, 0, 4, 14, 31, 0, 0, 192, 511] (by kernel_rfl) (by kernel_rfl) rfl (by kernel_rfl) ?_
   refine yS ?_
   refine yI ?_
   refine yS ?_
   refine y_val (r_lenSlice Tryz.underlying33 rfl rfl) rfl rfl ?_
   refine y_val (r_addN rfl rfl rfl (by omega)) rfl rfl ?_
   refine y_val (r_sliceFromN (l := i + 2) (j := (i + 2) * 2) Tryz.underlying33 tyA64.size rfl rfl rfl (by omega) (by rw [if_neg (by omega)]; omega)) rfl rfl ?_
   refine yS ?_
   refine yI ?_
   refine y_val (r_sliceFromN (l := i + 1) (j := (i + 1) * 2) Tryz.underlying33 tyA64.size rfl rfl rfl (by omega) (by rw [if_neg (by omega)]; omega)) rfl rfl ?_
   refine y_tail ?_
   intro W hW
   refine l_copyN hW 0 tyE33 (news := ((cur.drop ((i + 1) * 2)).take ((n - (i + 1)) * 2))) (j := (n - (i + 1))) rfl rfl rfl rfl rfl rfl (fun j u hu => by rw [cells_of (hW.at 0 rfl)]; exact get_mid hu) (by rw [List.length_take, List.length_drop]; omega) (by omega) (by omega) (fun u hu => hone u (by rw [← hct]; exact mem_mid hi hu)) ?_
   intro W hW
   refine l_end (n_then (c_seq (c_reg ?_)))
   refine aS ?_
   refine aI ?_
   refine l_val (r_sliceFromN (l := i) (j := (i) * 2) Tryz.underlying33 tyA64.size rfl rfl rfl (by omega) (by rw [if_neg (by omega)]; omega)) rfl rfl ?_
   refine aS ?_
   refine l_copyN hW 0 tyE33 (news := news) (j := 2) rfl rfl rfl rfl rfl rfl (fun j u hu => by rw [cells_of (hW.at (pS + 1) hpS), Nat.zero_add]; exact take_get hS hu) hSl (by omega) (by simp only [List.length_append, List.length_take, List.length_drop]; omega) hone2 ?_
   intro W hW
   refine l_end (n_then (c_seq (c_reg ?_)))
   refine aS ?_
   refine bS ?_
   refine l_end (n_then (c_ret (r_then ?_)))
   refine ret_tmp (v := .slice _ _ _) rfl rfl ?_
   refine ⟨_, [_], rfl, ⟨some ⟨g, 0, none⟩, c, congrArg (fun k => Value.slice (some ⟨g, 0, none⟩) k c) (show i + 2 + (n - (i + 1)) = n + 1 by omega), ?_, .inr ⟨g, _, rfl, rfl, by omega, hcm, ?_, ?_⟩⟩, hW⟩
   ·rw [List.length_append, List.length_append, List.length_take, List.length_drop]; omega
   ·simp only [List.length_append, List.length_take, List.length_drop]; omega
   ·rw [repl_in hSl (by omega) (by omega), hct]

end Go.Proofs.YtoegpalacppllaaGreat

/- A trace at work, by the program. -/
namespace Go.Proofs.YtoegpalacppllaaGreat
open Go.RowKit Pl
open Tr Hn
set_option maxRecDepth 10000 in
set_option maxHeartbeats 4000000 in
/-- (*headend/trace.tracer).run -/
theorem g_run (q : Bo) (t : Sl) (gx nn : Nat) (la : Option Addr) (lc : Nat) (l : List (Int × Int)) (BL : List Blk) (hO0 : OwnSl 64 2 la l.length lc (sl2 l) BL) (hs : schB q.s = true) (hu : usersB q.l ((p2 q.s.d.toNat : Nat) : Int) = true) (n0 : 0 ≤ q.n) (n8 : q.n ≤ 8) (x0 : 0 ≤ q.x) (x1 : q.x ≤ q.a) (m1 : 1 ≤ q.m) (m4 : q.m ≤ 4) (hl : q.l.length ≤ 100) (hn : nn ≤ 8) (hb : ∀ i, i < l.length → subB q.s (qn l i) (qm l i) = true) (hnd : (allm q.s l).Nodup) (hlim : q.a + ((((2 * p2 q.s.d.toNat + 1) * ((q.s.d.toNat + 2) * (2 * nn + 1))) : Nat) : Int) ≤ 100000) : GivesS Tryz.prog 62 [.pointer (some ⟨gx, 0, none⟩)].toArray (fun b0 L => ∀ W, Cl b0 L W → RdI W t q.l) ([⟨gx, (boC q t ++ trR nn Sl.no ⟨la, l.length, lc⟩ 0 0), 124⟩] ++ BL) (fun _ B => ∃ (n2 : Sl) (la2 : Option Addr) (lc2 : Nat) (BN BL2 : List Blk), B = (⟨gx, boC (traced (2 * nn + 1) ⟨q, l, [], 0⟩).1.b t ++ trR nn n2 ⟨la2, (traced (2 * nn + 1) ⟨q, l, [], 0⟩).1.l.length, lc2⟩ (traced (2 * nn + 1) ⟨q, l, [], 0⟩).1.a (traced (2 * nn + 1) ⟨q, l, [], 0⟩).2, 124⟩ : Blk) :: (BN ++ BL2) ∧ NewI n2 (traced (2 * nn + 1) ⟨q, l, [], 0⟩).1.nm BN ∧ OwnSl 64 2 la2 (traced (2 * nn + 1) ⟨q, l, [], 0⟩).1.l.length lc2 (sl2 (traced (2 * nn + 1) ⟨q, l, [], 0⟩).1.l) BL2) := by
 refine givesS_of Tryz.func62 rfl (bs := [.pointer (some ⟨gx, 0, none⟩), undef, undef, undef, undef, undef, undef, undef, undef, undef, undef, undef, undef, undef, undef, undef, undef, undef, undef, undef, undef, undef, undef, undef, undef, undef, undef, undef, undef, undef, undef, undef, undef, undef, undef, undef, undef, undef, undef, undef, undef, undef, undef, undef, undef, undef, undef, undef, undef, undef, undef, undef, undef, undef, undef, undef, undef, undef, undef, undef, undef, undef, undef, undef, undef, undef, undef, undef, undef, undef, undef, undef, undef, undef, undef, undef, undef, undef, undef, undef, undef, undef, undef, undef, undef, undef, undef, undef, undef, undef, undef, undef, undef, undef, undef, undef, undef, undef, undef, undef, undef, undef, undef, undef, undef, undef, undef, undef, undef, undef, undef, undef, undef, undef, undef, undef, undef, undef, undef, undef, undef, undef, undef, undef, undef, undef, undef, undef, undef, undef, undef]) rfl ?_
 intro b L w hP hW
 obtain ⟨k1, k3, d0, d6, -⟩ := schB_iff.1 hs
 have hp6 := p2_le (n := q.s.d.toNat) (by omega)
 have hrg : ∀ x ∈ allm q.s l, 0 ≤ x ∧ x < 64 := fun x hx => by
  have := all_lt hx
  omega
 refine c_scope ?_
 refine c_seq ?_
 refine c_label ?_
 refine n_then (c_block ?_)
 refine c_loop (fun (z : TrS) (j : Nat → Value) => [.pointer (some ⟨gx, 0, none⟩), j 1, j 2, j 3, j 4, j 5, j 6, j 7, j 8, j 9, j 10, j 11, j 12, j 13, j 14, j 15, j 16, j 17, j 18, j 19, j 20, j 21, j 22, j 23, j 24, j 25, j 26, j 27, j 28, j 29, j 30, j 31, j 32, j 33, j 34, j 35, j 36, j 37, j 38, j 39, j 40, j 41, j 42, j 43, j 44, j 45, j 46, j 47, j 48, j 49, j 50, j 51, j 52, j 53, j 54, j 55, j 56, j 57, j 58, j 59, j 60, j 61, j 62, j 63, j 64, j 65, j 66, j 67, j 68, j 69, j 70, j 71, j 72, j 73, j 74, j 75, j 76, j 77, j 78, j 79, j 80, j 81, j 82, j 83, j 84, j 85, j 86, j 87, j 88, j 89, j 90, j 91, j 92, j 93, j 94, j 95, j 96, j 97, j 98, j 99, j 100, j 101, j 102, j 103, j 104, j 105, j 106, j 107, j 108, j 109, j 110, j 111, j 112, j 113, j 114, j 115, j 116, j 117, j 118, j 119, j 120, j 121, j 122, j 123, j 124, j 125, j 126, j 127, j 128, j 129, j 130]) (fun (z : TrS) => [⟨gx, (boC z.t.b t ++ trR nn z.n2 ⟨z.la, z.t.l.length, z.lc⟩ z.t.a 0), 124⟩] ++ L ++ z.bn ++ z.bl) (fun (z : TrS) => TrP 64 (2 * nn + 1) q (allm q.s l) ⟨q, l, [], 0⟩ z) (fun (z : TrS) => z.t.pot) (⟨⟨q, l, [], 0⟩, t, [], Sl.no, [], la, lc, BL⟩ : TrS) (by kernel_rfl) (pickI (show Cl _ (([_] ++ BL) ++ L) _ from hW)) ⟨Tin.first hs x0 x1 hb hnd, rfl, NewI.no, hO0⟩ ?_
 intro z j W hx hW
 obtain ⟨ht, heq, hnm, hls⟩ := hx
 have ha := ht.ask
 have e1 := ha.a
 have e2 := ha.n
 have e3 := ha.x0
 have e4 := ha.x1
 have hbs := ha.s
 have hbl := ha.l
 obtain ⟨hlen1, hlen2⟩ := len_le hs hnd ht.part
 have hfit := ht.fit
 rw [Nat.succ_mul] at hfit
 have hK := Nat.add_mul q.s.d.toNat 2 (2 * nn + 1)
 have hst : schB z.t.b.s = true := by rw [hbs]; exact hs
 have hut : usersB z.t.b.l ((p2 z.t.b.s.d.toNat : Nat) : Int) = true := by rw [hbs, hbl]; exact hu
 have hsubs : ∀ i, i < z.t.l.length → subB z.t.b.s (qn z.t.l i) (qm z.t.l i) = true := fun i hi => by rw [hbs]; exact ht.part.sub (qn z.t.l i, qm z.t.l i) (q_mem.2 ⟨i, hi, rfl⟩)
 have hrnd := ht.round hs hnd hrg
 have hnml : z.t.nm.length ≤ 64 := by
  have h1 : z.t.nm.Nodup := (List.nodup_append.1 ((ht.part.perm.nodup_iff).2 hnd)).2.1
  have h2 := List.Nodup.length_le_of_subset (l₂ := (List.range 64).map fun u : Nat => (u : Int)) h1 fun x hx => by
   have := hrg x (ht.part.perm.subset (List.mem_append_right _ hx))
   exact List.mem_map.2 ⟨x.toNat, List.mem_range.2 (by omega), by omega⟩
  simpa using h2
 have e5 := ha.m
 refine c_block (c_seq ?_)
 refine c_regC hW [] [.q, .q, .q, .q, .q, .q, .q, .q, .q, .q, .mk 0, .tail, .tail, .tail, .tail, .tail] [⟨21, fun _ u Bs => ∃ (t : Sl) (ss : List Sl), u = .tuple #[t.v, .int .i64 (subsE z.t.b.s z.t.l)] ∧ (subsE z.t.b.s z.t.l = 0 → Rep Bs fun W => RdG W t ss (mems z.t.b.s z.t.l))⟩] [[]] [10] [0, 1, 3, 7, 15, 0, 32, 96, 224, 480, 1023, 2047, 4095, 4095, 8191, 32767] [] [.q, .q, .q, .q, .q, .q, .q, .q, .q, .q, .q, .q, .q, .q, .q, .q] [] [] [] (by kernel_rfl) (by kernel_rfl) rfl rfl (by kernel_rfl) (by kernel_rfl) ?_
 refine y_val (r_move (v := .pointer _) rfl rfl) rfl rfl ?_
 refine y_val (r_nilCheck rfl rfl) rfl rfl ?_
 refine y_val (r_fieldAddr 0 Tryz.underlying124 rfl tyA31.size rfl rfl rfl) rfl rfl ?_
 refine y_val (r_fieldAddr 0 Tryz.underlying31 rfl tyA26.size rfl rfl rfl) rfl rfl ?_
 refine y_loadP 0 tyA26 rfl rfl rfl rfl rfl (by rw [List.length_append, boC_len]; omega) (show _ = ([.int .u8 z.t.b.s.k, .int .i64 z.t.b.s.d, .int .i64 z.t.b.s.g, .int .u64 z.t.b.s.p, .int .u64 z.t.b.s.q, .int .u64 z.t.b.s.r] : List Value) from rfl) (by decide) ?_
 refine y_val (r_move (v := .pointer _) rfl rfl) rfl rfl ?_
 refine y_val (r_nilCheck rfl rfl) rfl rfl ?_
 refine y_val (r_fieldAddr 29 Tryz.underlying124 rfl tyA38.size rfl rfl rfl) rfl rfl ?_
 refine y_val (r_fieldAddr 30 Tryz.underlying38 rfl tyC33.size rfl rfl rfl) rfl rfl ?_
 refine y_loadC 0 tyC33 rfl rfl rfl rfl rfl rfl (by decide) ?_
 refine y_callX 0 (g_psubsets z.t.b.s z.la z.t.l.length z.lc z.t.l hst (by omega)) en83 rfl rfl (fun L2 w hs hC => hls.repB.at hC ((List.sublist_append_right _ z.bl).trans hs.pre)) rfl rfl ?_
 refine y_tail ?_
 refine y_made ?_
 rintro _ BsS ⟨tS, ss, rfl, hG⟩
 have hz0 : subsE z.t.b.s z.t.l = 0 := subsE_yes (by omega) hsubs
 have hG1 := hG hz0
 refine y_val (r_move (v := .tuple _) rfl rfl) rfl rfl ?_
 refine y_val (r_extract (v := .slice _ _ _) rfl rfl rfl) rfl rfl ?_
 refine y_val (r_extract (v := .int _ _) rfl rfl rfl) rfl rfl ?_
 refine y_val (r_assign (v := .slice _ _ _) rfl rfl) rfl rfl ?_
 refine y_val (r_assign (v := .int _ _) rfl rfl) rfl rfl ?_
 refine y_end ?_
 intro W hW
 replace hW := hW.perm List.perm_append_comm
 refine n_then (c_seq (c_reg ?_))
 refine aP ?_
 refine l_val (r_nilCheck rfl rfl) rfl rfl ?_
 refine l_val (r_fieldAddr 0 Tryz.underlying124 rfl tyA31.size rfl rfl rfl) rfl rfl ?_
 refine l_loadP hW 0 tyA31 rfl rfl rfl rfl rfl (by rw [List.length_append, boC_len]; omega) (boC_boxR _ _ _) ?_
 refine aS ?_
 have hgl : ∀ m ∈ mems z.t.b.s z.t.l, m.length ≤ 4294967296 := fun m hm => by
  obtain ⟨y, -, rfl⟩ := List.mem_map.1 hm
  have h1 := mem_len z.t.b.s y.1 y.2 (p2 z.t.b.s.d.toNat)
  have h2 : p2 z.t.b.s.d.toNat ≤ 64 := by rw [hbs]; exact hp6
  omega
 have htn : tS.n = z.t.l.length := by
  have h1 := (hG1.at hW (List.sublist_append_right _ BsS)).n
  have h2 := (hG1.at hW (List.sublist_append_right _ BsS)).len
  rw [mems_len] at h2; omega
 refine l_callX hW (g_opens z.t.b t tS.a tS.n tS.c ss (mems z.t.b.s z.t.l) (users_pair hut) (by rw [hbl]; exact hl) (by rw [mems_len]; omega) hgl) en85 ⟨by rw [hbl]; exact hP W (hW.sub ((((List.sublist_append_right _ L).trans (List.sublist_append_left _ z.bn)).trans (List.sublist_append_left _ z.bl)).trans (List.sublist_append_left _ BsS))), hG1.at hW (List.sublist_append_right _ BsS)⟩ rfl rfl rfl rfl ?_
 rintro _ BO W ⟨ao, co, rfl, hOO⟩ hW
 have hOT : OwnSl 4 1 ao z.t.l.length co (tl z.t.o) BO := by
  have h := hOO
  rw [mems_len, opl_opens hut] at h
  exact h
 rw [mems_len]
 have hol : z.t.o.length = z.t.l.length := opens_length z.t
 refine bS ?_
 refine l_end (n_then (c_seq (c_seq (c_reg ?_))))
 refine aP ?_
 refine aS ?_
 refine l_callS (B := [_]) (L := ((((L ++ z.bn) ++ z.bl) ++ BsS) ++ BO)) (g_tseen z.t.b t gx nn z.t.a 0 z.n2 ⟨z.la, z.t.l.length, z.lc⟩ ao z.t.l.length co z.t.o 0 (by omega) (by omega) (by omega) (by omega) (by omega) (by omega) hn (by omega) (by omega) (by omega)) (show Cl _ ([_] ++ ((((L ++ z.bn) ++ z.bl) ++ BsS) ++ BO)) _ from hW) en105 (fun W hC => hOT.repT.at hC (List.sublist_append_right _ BO)) rfl rfl rfl rfl ?_
 rintro _ _ W ⟨rfl, rfl⟩ hW
 obtain ⟨r1, hr1⟩ : ∃ r, r = seenN z.t.o 0 (2 * nn + 1) z.t.b z.t.a := ⟨_, rfl⟩
 rw [← hr1] at hW ⊢
 obtain ⟨m1, hm1a, hm1b, hm1c, -⟩ := seenN_run z.t.o 0 (2 * nn + 1) z.t.a ha
 rw [← hr1] at hm1b hm1c
 have ha1 : Askd q r1.1 r1.2.2 := by rw [hm1c]; exact hm1b
 have hsa1 : seenN z.t.o 0 (2 * nn + 1) z.t.b z.t.a = (r1.1, r1.2.1, r1.2.2) := hr1.symm
 have f1a := ha1.a
 have f1n := ha1.n
 have f1m := ha1.m
 have f10 := ha1.x0
 have f11 := ha1.x1
 refine l_split ?_ ?_
 ·intro hc1
  have hpos : 0 < z.t.o.length := seenN_pos (k := 2 * nn + 1) (b := z.t.b) (n := z.t.a) (f := 0) (by rw [← hr1]; exact hc1)
  refine l_val (r_not rfl rfl) rfl rfl ?_
  refine l_end (n_then ?_)
  refine c_false rfl ?_
  refine c_skip (n_then (c_seq (c_reg ?_)))
  refine aS ?_
  refine l_val (r_lenSlice Tryz.underlying155 rfl rfl) rfl rfl ?_
  refine bI ?_
  refine bI ?_
  refine l_end (n_then (c_seq (c_block ?_)))
  refine c_loop (fun (y : Nat × Nat × Bo × Nat) (j : Nat → Value) => [.pointer (some ⟨gx, 0, none⟩), j 1, .slice tS.a tS.n tS.c, .int .i64 (subsE z.t.b.s z.t.l), .slice ao z.t.l.length co, .int .i64 (y.1 : Int), .int .i64 (y.2.1 : Int), j 7, j 8, j 9, .tuple #[.slice tS.a tS.n tS.c, .int .i64 (subsE z.t.b.s z.t.l)], .pointer (some ⟨gx, 0, none⟩), .pointer (some ⟨gx, 0, none⟩), .pointer (some ⟨gx, 0, none⟩), .pointer (some ⟨gx, 0, none⟩), .agg [.int .u8 z.t.b.s.k, .int .i64 z.t.b.s.d, .int .i64 z.t.b.s.g, .int .u64 z.t.b.s.p, .int .u64 z.t.b.s.q, .int .u64 z.t.b.s.r].toArray, .pointer (some ⟨gx, 0, none⟩), .pointer (some ⟨gx, 0, none⟩), .pointer (some ⟨gx, 29, none⟩), .pointer (some ⟨gx, 30, none⟩), .slice z.la z.t.l.length z.lc, .tuple #[.slice tS.a tS.n tS.c, .int .i64 (subsE z.t.b.s z.t.l)], .slice tS.a tS.n tS.c, .int .i64 (subsE z.t.b.s z.t.l), .pointer (some ⟨gx, 0, none⟩), .pointer (some ⟨gx, 0, none⟩), .pointer (some ⟨gx, 0, none⟩), .agg (boC z.t.b t).toArray, .slice tS.a tS.n tS.c, .slice ao z.t.l.length co, .pointer (some ⟨gx, 0, none⟩), .slice ao z.t.l.length co, .bool true, .bool false, j 34, j 35, j 36, j 37, .slice ao z.t.l.length co, .int .i64 (z.t.l.length : Int), j 40, j 41, j 42, j 43, j 44, j 45, j 46, j 47, j 48, j 49, j 50, j 51, j 52, j 53, j 54, j 55, j 56, j 57, j 58, j 59, j 60, j 61, j 62, j 63, j 64, j 65, j 66, j 67, j 68, j 69, j 70, j 71, j 72, j 73, j 74, j 75, j 76, j 77, j 78, j 79, j 80, j 81, j 82, j 83, j 84, j 85, j 86, j 87, j 88, j 89, j 90, j 91, j 92, j 93, j 94, j 95, j 96, j 97, j 98, j 99, j 100, j 101, j 102, j 103, j 104, j 105, j 106, j 107, j 108, j 109, j 110, j 111, j 112, j 113, j 114, j 115, j 116, j 117, j 118, j 119, j 120, j 121, j 122, j 123, j 124, j 125, j 126, j 127, j 128, j 129, j 130]) (fun (y : Nat × Nat × Bo × Nat) => [⟨gx, (boC y.2.2.1 t ++ trR nn z.n2 ⟨z.la, z.t.l.length, z.lc⟩ y.2.2.2 0), 124⟩] ++ ((((L ++ z.bn) ++ z.bl) ++ BsS) ++ BO)) (fun (y : Nat × Nat × Bo × Nat) => y.1 < y.2.1 ∧ y.2.1 ≤ z.t.o.length ∧ (∃ j, y.2.1 - y.1 ≤ p2 j ∧ y.2.2.2 + j * (2 * nn + 1) ≤ r1.2.2 + q.s.d.toNat * (2 * nn + 1)) ∧ Askd q y.2.2.1 y.2.2.2 ∧ searchN z.t.o (2 * nn + 1) z.t.o.length 0 z.t.o.length r1.1 r1.2.2 = searchN z.t.o (2 * nn + 1) (y.2.1 - y.1) y.1 y.2.1 y.2.2.1 y.2.2.2) (fun (y : Nat × Nat × Bo × Nat) => y.2.1 - y.1) (0, z.t.l.length, r1.1, r1.2.2) (by kernel_rfl) (show Cl _ ([_] ++ ((((L ++ z.bn) ++ z.bl) ++ BsS) ++ BO)) _ from hW) ⟨by simp only; omega, by simp only; omega, ⟨q.s.d.toNat, by simp only; omega, by simp only; omega⟩, ha1, by simp only [Nat.sub_zero, opens_length]⟩ ?_
  intro y j W hx hW
  obtain ⟨hlo, hhi, ⟨j, hj1, hj2⟩, hay, hsr⟩ := hx
  have g1 := hay.a
  have g2 := hay.n
  have g3 := hay.x0
  have g4 := hay.x1
  have g5 := hay.m
  refine c_seq (c_seq (c_reg ?_))
  refine aI ?_
  refine aI ?_
  refine l_val (r_subN rfl rfl rfl (by omega) (by omega)) rfl rfl ?_
  refine l_val (r_gtrN (n := 1) rfl rfl rfl rfl) rfl rfl ?_
  refine l_split ?_ ?_
  ·intro hc2
   replace hc2 := of_decide_eq_true hc2
   obtain ⟨jj, rfl⟩ : ∃ jj, j = jj + 1 := ⟨j - 1, by
    cases j with
    | zero => simp only [p2] at hj1; omega
    | succ j => rfl⟩
   rw [p2] at hj1
   rw [Nat.succ_mul] at hj2
   refine l_end (n_then ?_)
   refine c_true rfl ?_
   refine c_skip (n_then (c_block (c_seq (c_reg ?_))))
   refine aI ?_
   refine aI ?_
   refine l_val (r_addN rfl rfl rfl (by omega)) rfl rfl ?_
   refine l_val (r_quoN (n := 2) rfl rfl rfl (by omega) (by omega)) rfl rfl ?_
   refine bI ?_
   refine l_end (n_then (c_seq (c_reg ?_)))
   refine aP ?_
   refine aS ?_
   refine aI ?_
   refine l_callS (B := [_]) (L := ((((L ++ z.bn) ++ z.bl) ++ BsS) ++ BO)) (g_tseen y.2.2.1 t gx nn y.2.2.2 0 z.n2 ⟨z.la, z.t.l.length, z.lc⟩ ao z.t.l.length co z.t.o (((y.1 + y.2.1) / 2 : Nat) : Int) (by omega) (by omega) (by omega) (by omega) (by omega) (by omega) hn (by omega) (by omega) (by omega)) (show Cl _ ([_] ++ ((((L ++ z.bn) ++ z.bl) ++ BsS) ++ BO)) _ from hW) en105 (fun W hC => hOT.repT.at hC (List.sublist_append_right _ BO)) rfl rfl rfl rfl ?_
   rintro _ _ W ⟨rfl, rfl⟩ hW
   obtain ⟨r2, hr2⟩ : ∃ r, r = seenN z.t.o (((y.1 + y.2.1) / 2 : Nat) : Int) (2 * nn + 1) y.2.2.1 y.2.2.2 := ⟨_, rfl⟩
   rw [← hr2] at hW ⊢
   obtain ⟨m2, hm2a, hm2b, hm2c, -⟩ := seenN_run z.t.o (((y.1 + y.2.1) / 2 : Nat) : Int) (2 * nn + 1) y.2.2.2 hay
   rw [← hr2] at hm2b hm2c
   have ha2 : Askd q r2.1 r2.2.2 := by rw [hm2c]; exact hm2b
   have hsa2 : seenN z.t.o (((y.1 + y.2.1) / 2 : Nat) : Int) (2 * nn + 1) y.2.2.1 y.2.2.2 = (r2.1, r2.2.1, r2.2.2) := hr2.symm
   have f2a := ha2.a
   have f2n := ha2.n
   have f2m := ha2.m
   have f20 := ha2.x0
   have f21 := ha2.x1
   refine l_split ?_ ?_
   ·intro hc3
    refine l_end (n_then ?_)
    refine c_true rfl ?_
    refine c_reg ?_
    refine aI ?_
    refine bI ?_
    refine l_end (n_block (n_then ?_))
    exact loop_next ((y.1 + y.2.1) / 2, y.2.1, r2.1, r2.2.2) (by kernel_rfl) hW ⟨by simp only; omega, by simp only; omega, ⟨jj, by simp only; omega, by simp only; omega⟩, ha2, by simp only; rw [hsr, show y.2.1 - y.1 = (y.2.1 - y.1 - 1) + 1 by omega, searchN_yes (by omega) (hsa2.trans (by rw [hc3]))]; exact searchN_fuel (by omega) (by omega)⟩ (by simp only; omega)
   ·intro hc3
    refine l_end (n_then ?_)
    refine c_false rfl ?_
    refine c_reg ?_
    refine aI ?_
    refine bI ?_
    refine l_end (n_block (n_then ?_))
    exact loop_next (y.1, (y.1 + y.2.1) / 2, r2.1, r2.2.2) (by kernel_rfl) hW ⟨by simp only; omega, by simp only; omega, ⟨jj, by simp only; omega, by simp only; omega⟩, ha2, by simp only; rw [hsr, show y.2.1 - y.1 = (y.2.1 - y.1 - 1) + 1 by omega, searchN_no (by omega) (hsa2.trans (by rw [hc3]))]; exact searchN_fuel (by omega) (by omega)⟩ (by simp only; omega)
  ·intro hc2
   replace hc2 := of_decide_eq_false hc2
   have hsa2 : searchN z.t.o (2 * nn + 1) z.t.o.length 0 z.t.o.length r1.1 r1.2.2 = (y.2.2.1, y.1, y.2.2.2) := by rw [hsr, searchN_end (by omega)]
   have hj3 := Nat.zero_le (j * (2 * nn + 1))
   refine l_end (n_then ?_)
   refine c_false rfl ?_
   refine c_exit (x_then (x_then ?_))
   refine x_hit ?_
   refine n_then (c_seq (c_seq (c_reg ?_)))
   refine aP ?_
   refine aS ?_
   refine l_callS (B := [_]) (L := ((((L ++ z.bn) ++ z.bl) ++ BsS) ++ BO)) (g_tseen y.2.2.1 t gx nn y.2.2.2 0 z.n2 ⟨z.la, z.t.l.length, z.lc⟩ ao z.t.l.length co z.t.o 0 (by omega) (by omega) (by omega) (by omega) (by omega) (by omega) hn (by omega) (by omega) (by omega)) (show Cl _ ([_] ++ ((((L ++ z.bn) ++ z.bl) ++ BsS) ++ BO)) _ from hW) en105 (fun W hC => hOT.repT.at hC (List.sublist_append_right _ BO)) rfl rfl rfl rfl ?_
   rintro _ _ W ⟨rfl, rfl⟩ hW
   obtain ⟨r3, hr3⟩ : ∃ r, r = seenN z.t.o 0 (2 * nn + 1) y.2.2.1 y.2.2.2 := ⟨_, rfl⟩
   rw [← hr3] at hW ⊢
   obtain ⟨m3, hm3a, hm3b, hm3c, -⟩ := seenN_run z.t.o 0 (2 * nn + 1) y.2.2.2 hay
   rw [← hr3] at hm3b hm3c
   have ha3 : Askd q r3.1 r3.2.2 := by rw [hm3c]; exact hm3b
   have hsa3 : seenN z.t.o 0 (2 * nn + 1) y.2.2.1 y.2.2.2 = (r3.1, r3.2.1, r3.2.2) := hr3.symm
   have f3a := ha3.a
   have f3n := ha3.n
   have f3m := ha3.m
   have f30 := ha3.x0
   have f31 := ha3.x1
   refine l_split ?_ ?_
   ·intro hc4
    refine l_val (r_not rfl rfl) rfl rfl ?_
    refine l_end (n_then ?_)
    refine c_false rfl ?_
    refine c_skip (n_then (c_seq (c_seq (c_reg ?_))))
    refine aI ?_
    refine aS ?_
    refine l_val (r_lenSlice Tryz.underlying150 rfl rfl) rfl rfl ?_
    refine l_val (r_geqN (b := false) rfl rfl rfl (decide_eq_false (by omega))) rfl rfl ?_
    refine l_end (n_then ?_)
    refine c_false rfl ?_
    refine c_skip (n_then (c_seq (c_seq (c_reg ?_))))
    have hG2 := hG1.at (show Cl _ ([_] ++ ((((L ++ z.bn) ++ z.bl) ++ BsS) ++ BO)) _ from hW) (((List.sublist_append_right _ BsS).trans (List.sublist_append_left _ BO)).trans (List.sublist_append_right [_] _))
    obtain ⟨b0, o0, hat⟩ := hG2.ptr (by omega)
    have hG3 : Rep BsS fun W => RdG W ⟨some ⟨b0, o0, none⟩, tS.n, tS.c⟩ ss (mems z.t.b.s z.t.l) := by rw [← hat]; exact hG1
    obtain ⟨sm, mm, hs1, hm1, -, hmr⟩ := (hG3.at (show Cl _ ([_] ++ ((((L ++ z.bn) ++ z.bl) ++ BsS) ++ BO)) _ from hW) (((List.sublist_append_right _ BsS).trans (List.sublist_append_left _ BO)).trans (List.sublist_append_right [_] _))).get (i := y.1) (by omega)
    have hrm0 : Rep BsS fun W => RdI W sm mm := fun b W hC => (hG3 b W hC).es _ _ _ hs1 hm1
    have hmm : mm = membersN z.t.b.s (qn z.t.l y.1) (qm z.t.l y.1) (p2 z.t.b.s.d.toNat) := by
     rw [mems_get (by omega)] at hm1
     exact (Option.some.inj hm1).symm
    have hsml := hmr.len
    have hmlen := mem_len z.t.b.s (qn z.t.l y.1) (qm z.t.l y.1) (p2 z.t.b.s.d.toNat)
    have hp62 : p2 z.t.b.s.d.toNat ≤ 64 := by rw [hbs]; exact hp6
    rw [hmm] at hsml
    have hrm : Rep BsS fun W => RdI W sm (membersN z.t.b.s (qn z.t.l y.1) (qm z.t.l y.1) (p2 z.t.b.s.d.toNat)) := by rw [← hmm]; exact hrm0
    obtain ⟨tk, htk⟩ : ∃ k, k = taken z.t.b.s z.t.l y.1 := ⟨_, rfl⟩
    obtain ⟨tm, htm⟩ : ∃ k, k = takenM z.t.b.s z.t.l z.t.nm y.1 := ⟨_, rfl⟩
    have hs3 : r3.1.s = z.t.b.s := ha3.s.trans hbs.symm
    have hsrt := (ht.part.step hs hnd hrg (i := y.1) (by omega)).2.2
    rw [← hbs] at hsrt
    obtain ⟨gr, cur, hla, hbl2, -, -, -⟩ := hls.row (by omega)
    have hls2 := hls
    rw [hla, hbl2] at hls2
    refine aS ?_
    refine aI ?_
    refine l_val (r_indexAddrSl2 (n := y.1) Tryz.underlying150 tyC27.size rfl (congrArg (fun a => Value.slice a tS.n tS.c) hat) rfl (by omega)) rfl rfl ?_
    refine l_loadW tyC27 (v := sm.v) ((hG3.at (show Cl _ ([_] ++ ((((L ++ z.bn) ++ z.bl) ++ BsS) ++ BO)) _ from hW) (((List.sublist_append_right _ BsS).trans (List.sublist_append_left _ BO)).trans (List.sublist_append_right [_] _))).cell hs1) rfl rfl rfl rfl ?_
    refine l_val (r_lenSlice Tryz.underlying27 rfl rfl) rfl rfl ?_
    refine l_val (r_eqlN (n := 1) rfl rfl rfl rfl) rfl rfl ?_
    refine l_split ?_ ?_
    ·intro hc5
     replace hc5 := of_decide_eq_true hc5
     have h1 : (membersN z.t.b.s (qn z.t.l y.1) (qm z.t.l y.1) (p2 z.t.b.s.d.toNat)).length = 1 := by omega
     have htk1 : tk = z.t.l.take y.1 ++ z.t.l.drop (y.1 + 1) := by rw [htk, taken_mid, mid_one h1]; rfl
     have htm1 : tm = merged z.t.nm (membersN z.t.b.s (qn z.t.l y.1) (qm z.t.l y.1) (p2 z.t.b.s.d.toNat)) := htm.trans (if_pos h1)
     have hln : z.t.l.length - 1 = tk.length := by rw [htk1, List.length_append, List.length_take, List.length_drop]; omega
     refine l_end (n_then ?_)
     refine c_true rfl ?_
     refine c_seq ?_
     refine c_regM hW [] [.q, .q, .q, .q, .q, .q, .q, .q, .q, .q, .mk 0, .mkd 1 0, .tail, .tail, .tail, .tail] [⟨82, bslX 27 2⟩, ⟨83, fun _ v Bs => ∃ s : Sl, v = s.v ∧ NewI s (sortI [z.t.nm, membersN z.t.b.s (qn z.t.l y.1) (qm z.t.l y.1) (p2 z.t.b.s.d.toNat)].flatten) Bs⟩] [[z.n2.v, sm.v], []] [10, 11] [0, 0, 2, 6, 14, 30, 0, 0, 192, 448, 1022, 2046, 4095, 8191, 16383, 32767] (by kernel_rfl) (by kernel_rfl) rfl (by kernel_rfl) ?_
     refine y_val (r_move (v := .pointer _) rfl rfl) rfl rfl ?_
     refine y_val (r_move (v := .pointer _) rfl rfl) rfl rfl ?_
     refine y_val (r_nilCheck rfl rfl) rfl rfl ?_
     refine y_val (r_fieldAddr 29 Tryz.underlying124 rfl tyA38.size rfl rfl rfl) rfl rfl ?_
     refine y_val (r_fieldAddr 29 Tryz.underlying38 rfl tyC27.size rfl rfl rfl) rfl rfl ?_
     refine y_loadC 0 tyC27 rfl rfl rfl rfl rfl rfl (by decide) ?_
     refine yS ?_
     refine yI ?_
     refine y_val (r_indexAddrSl2 (n := y.1) Tryz.underlying150 tyC27.size rfl (congrArg (fun a => Value.slice a tS.n tS.c) hat) rfl (by omega)) rfl rfl ?_
     refine y_loadR tyC27 (v := sm.v) (fun L2 w hs hC => (hG3.at hC ((((List.sublist_append_right _ BsS).trans (List.sublist_append_left _ BO)).trans (List.sublist_append_right [_] _)).trans hs.pre)).cell hs1) rfl rfl rfl rfl ?_
     refine y_buildSliceF 0 (bsl150_2_0_1 _ _ _ _ _ _) rfl rfl rfl rfl ?_
     refine y_callXs 1 0 en80 rfl rfl rfl rfl ?_ rfl ?_
     ·rintro _ _ L2 hS ⟨g2, rfl, rfl⟩
      exact ⟨_, _, g_merged (some ⟨g2, 0, none⟩) 2 2 [z.n2, sm] [z.t.nm, membersN z.t.b.s (qn z.t.l y.1) (qm z.t.l y.1) (p2 z.t.b.s.d.toNat)] (by rw [sumL_flat]; simp only [List.flatten_cons, List.flatten_nil, List.append_nil, List.length_append]; omega) (by decide), fun w hC => RdG.two (hC.sub (List.sublist_append_right L2 _)) 0 rfl (hnm.rep.at hC ((((((List.sublist_append_right _ z.bn).trans (List.sublist_append_left _ z.bl)).trans (List.sublist_append_left _ BsS)).trans (List.sublist_append_left _ BO)).trans (List.sublist_append_right [_] _)).trans (hS.pre.trans (List.sublist_append_left L2 _)))) (hrm.at hC ((((List.sublist_append_right _ BsS).trans (List.sublist_append_left _ BO)).trans (List.sublist_append_right [_] _)).trans (hS.pre.trans (List.sublist_append_left L2 _)))), rfl⟩
     refine y_tail ?_
     refine y_made ?_
     rintro _ _ ⟨g2, rfl, rfl⟩
     refine y_made ?_
     rintro _ BM ⟨s9, rfl, h9⟩
     intro W hW
     replace hW := pickM (G := [_]) hW
     rw [show [z.t.nm, membersN z.t.b.s (qn z.t.l y.1) (qm z.t.l y.1) (p2 z.t.b.s.d.toNat)].flatten = z.t.nm ++ membersN z.t.b.s (qn z.t.l y.1) (qm z.t.l y.1) (p2 z.t.b.s.d.toNat) by simp, hsrt, ← htm1] at h9
     refine l_val (r_nilCheck rfl rfl) rfl rfl ?_
     refine l_val (r_fieldAddr 29 Tryz.underlying124 rfl tyA38.size rfl rfl rfl) rfl rfl ?_
     refine l_val (r_fieldAddr 29 Tryz.underlying38 rfl tyC27.size rfl rfl rfl) rfl rfl ?_
     refine l_storeC hW 0 tyC27 (v := s9.v) rfl rfl rfl rfl rfl rfl (trR_len (by decide)) rfl ?_
     intro W hW
     replace hW := (show Cl _ (([⟨gx, boC r3.1 t ++ trR nn s9 ⟨z.la, z.t.l.length, z.lc⟩ r3.2.2 0, 124⟩] ++ ((((L ++ z.bn) ++ z.bl) ++ BsS) ++ BO)) ++ ([_] ++ BM)) _ from hW)
     refine l_end (n_then (c_seq (c_reg ?_)))
     refine aP ?_
     refine aP ?_
     refine l_val (r_nilCheck rfl rfl) rfl rfl ?_
     refine l_val (r_fieldAddr 29 Tryz.underlying124 rfl tyA38.size rfl rfl rfl) rfl rfl ?_
     refine l_val (r_fieldAddr 30 Tryz.underlying38 rfl tyC33.size rfl rfl rfl) rfl rfl ?_
     refine dC hW 0 tyC33 ?_
     refine aI ?_
     refine aI ?_
     refine l_val (r_addN (n := 1) rfl rfl rfl (by omega)) rfl rfl ?_
     replace hW := pickA hW
     rw [hbl2] at hW
     refine l_callS (B := [_]) (L := [_] ++ (L ++ BM)) (g_DeleteB gr z.t.l.length z.lc y.1 cur (sl2 z.t.l) hls2 (by omega) (sl2_one _)) hW en106 trivial rfl rfl (by show [Value.slice z.la _ _, _, _] = _; rw [hla]; rfl) rfl ?_
     rintro _ B9 W ⟨rfl, hO9⟩ hW
     replace hW := hW.perm List.perm_append_comm
     replace hO9 := hO9.castx hln (xs' := sl2 tk) (by rw [htk1, sl2_append, sl2_take, sl2_drop])
     rw [hln]
     refine l_val (r_nilCheck rfl rfl) rfl rfl ?_
     refine l_val (r_fieldAddr 29 Tryz.underlying124 rfl tyA38.size rfl rfl rfl) rfl rfl ?_
     refine l_val (r_fieldAddr 30 Tryz.underlying38 rfl tyC33.size rfl rfl rfl) rfl rfl ?_
     refine l_storeC hW 0 tyC33 (v := .slice (some ⟨gr, 0, none⟩) tk.length z.lc) rfl rfl rfl rfl rfl rfl (trR_len (by decide)) rfl ?_
     intro W hW
     refine l_end (n_then (c_exit (x_then ?_)))
     refine x_hit ?_
     refine n_then ?_
     have hround : roundN (2 * nn + 1) z.t = (⟨r3.1, tk, tm, r3.2.2⟩, 0) := by rw [round_0 (hsa1.trans (by rw [hc1])) hsa2 (hsa3.trans (by rw [hc4])), htk, htm]
     have hin := (hrnd.1 (by rw [hround])).1
     have hpt := (hrnd.1 (by rw [hround])).2
     rw [hround] at hin hpt
     exact loop_next ⟨⟨r3.1, tk, tm, r3.2.2⟩, t, [], s9, BM, some ⟨gr, 0, none⟩, z.lc, B9⟩ (by kernel_rfl) (show Cl _ ((([⟨gx, boC r3.1 t ++ trR nn s9 ⟨some ⟨gr, 0, none⟩, tk.length, z.lc⟩ r3.2.2 0, 124⟩] ++ L) ++ BM) ++ B9) _ from hW) ⟨hin, heq.trans ((traced_0 hs hnd hrg ht (by rw [hround])).trans (by rw [hround])), h9, hO9⟩ hpt
    ·intro hc5
     replace hc5 := of_decide_eq_false hc5
     have h1 : (membersN z.t.b.s (qn z.t.l y.1) (qm z.t.l y.1) (p2 z.t.b.s.d.toNat)).length ≠ 1 := by omega
     have htk2 : tk = z.t.l.take y.1 ++ (splitV z.t.b.s (qn z.t.l y.1) (qm z.t.l y.1) ++ z.t.l.drop (y.1 + 1)) := by rw [htk, taken_mid, mid_two h1]
     have htm2 : tm = z.t.nm := htm.trans (if_neg h1)
     have hsp2 := (split_perm hst (hsubs y.1 (by omega)) h1).2.1
     have hln : z.t.l.length + 1 = tk.length := by rw [htk2, List.length_append, List.length_append, List.length_take, List.length_drop, hsp2]; omega
     have hB2 : Rep z.bl fun W => RdB W ⟨some ⟨gr, 0, none⟩, z.t.l.length, z.lc⟩ z.t.l := by rw [← hla]; exact hls.repB
     refine l_end (n_then ?_)
     refine c_false rfl ?_
     refine c_skip (n_then (c_seq ?_))
     refine c_regC hW [] [.q, .q, .q, .q, .q, .q, .q, .q, .q, .q, .q, .q, .q, .mk 0, .tail, .tail, .tail, .tail, .tail] [⟨114, fun _ u Bs => ∃ a c, u = .tuple #[.slice a 2 c, .int .i64 0] ∧ OwnSl 64 2 a 2 c (sl2 (splitV r3.1.s (qn z.t.l y.1) (qm z.t.l y.1))) Bs⟩] [[]] [13] [0, 1, 3, 7, 15, 0, 32, 96, 224, 480, 0, 2016, 4064, 8191, 16383, 32767, 32767, 65535, 262143] [] [.q, .q, .q, .q, .q, .q, .q, .q, .q, .q, .q, .q, .q, .q, .q, .q, .q, .q, .q] [] [] [] (by kernel_rfl) (by kernel_rfl) rfl rfl (by kernel_rfl) (by kernel_rfl) ?_
     refine y_val (r_move (v := .pointer _) rfl rfl) rfl rfl ?_
     refine y_val (r_nilCheck rfl rfl) rfl rfl ?_
     refine y_val (r_fieldAddr 0 Tryz.underlying124 rfl tyA31.size rfl rfl rfl) rfl rfl ?_
     refine y_val (r_fieldAddr 0 Tryz.underlying31 rfl tyA26.size rfl rfl rfl) rfl rfl ?_
     refine y_loadP 0 tyA26 rfl rfl rfl rfl rfl (by rw [List.length_append, boC_len]; omega) (show _ = ([.int .u8 r3.1.s.k, .int .i64 r3.1.s.d, .int .i64 r3.1.s.g, .int .u64 r3.1.s.p, .int .u64 r3.1.s.q, .int .u64 r3.1.s.r] : List Value) from rfl) (by decide) ?_
     refine y_val (r_move (v := .pointer _) rfl rfl) rfl rfl ?_
     refine y_val (r_nilCheck rfl rfl) rfl rfl ?_
     refine y_val (r_fieldAddr 29 Tryz.underlying124 rfl tyA38.size rfl rfl rfl) rfl rfl ?_
     refine y_val (r_fieldAddr 30 Tryz.underlying38 rfl tyC33.size rfl rfl rfl) rfl rfl ?_
     refine y_loadC 0 tyC33 rfl rfl rfl rfl rfl rfl (by decide) ?_
     refine yI ?_
     refine y_val (r_indexAddrSlB (n := y.1) Tryz.underlying33 tyA64.size rfl (congrArg (fun a => Value.slice a z.t.l.length z.lc) hla) rfl (by omega)) rfl rfl ?_
     refine y_loadR2 tyA64 (fun L2 w hs hC => (hB2.at hC (((((List.sublist_append_right _ z.bl).trans (List.sublist_append_left _ BsS)).trans (List.sublist_append_left _ BO)).trans (List.sublist_append_right [_] _)).trans hs.pre)).cells (by omega)) rfl rfl rfl rfl ?_
     refine y_callX 0 (g_Split r3.1.s (qn z.t.l y.1) (qm z.t.l y.1) (by rw [hs3]; exact hst) (by rw [hs3]; exact hsubs _ (by omega)) (by rw [hs3]; exact h1)) en107 rfl rfl (fun _ _ _ _ => trivial) rfl rfl ?_
     refine y_tail ?_
     refine y_made ?_
     rintro _ _ ⟨aS, cS, rfl, hOS⟩
     obtain ⟨gs, curS, rfl, rfl, -, -, htS⟩ := hOS.row (by omega)
     rw [hs3] at htS
     refine y_val (r_move (v := .tuple _) rfl rfl) rfl rfl ?_
     refine y_val (r_extract (v := .slice _ _ _) rfl rfl rfl) rfl rfl ?_
     refine y_val (r_extract (v := .int _ _) rfl rfl rfl) rfl rfl ?_
     refine y_val (r_assign (v := .slice _ _ _) rfl rfl) rfl rfl ?_
     refine y_val (r_assign (v := .int _ _) rfl rfl) rfl rfl ?_
     refine y_end ?_
     intro W hW
     refine n_then (c_reg ?_)
     refine aP ?_
     refine aP ?_
     refine l_val (r_nilCheck rfl rfl) rfl rfl ?_
     refine l_val (r_fieldAddr 29 Tryz.underlying124 rfl tyA38.size rfl rfl rfl) rfl rfl ?_
     refine l_val (r_fieldAddr 30 Tryz.underlying38 rfl tyC33.size rfl rfl rfl) rfl rfl ?_
     refine dC hW 1 tyC33 ?_
     refine aI ?_
     refine aI ?_
     refine l_val (r_addN (n := 1) rfl rfl rfl (by omega)) rfl rfl ?_
     refine aS ?_
     replace hW := pickB hW
     rw [hbl2] at hW
     refine l_callS (B := [_]) (L := [_] ++ ((L ++ z.bn) ++ [⟨gs, curS, 64⟩])) (g_ReplaceB gr z.t.l.length z.lc y.1 gs cS cur (sl2 z.t.l) curS (sl2 (splitV z.t.b.s (qn z.t.l y.1) (qm z.t.l y.1))) hls2 (by omega) (sl2_one _) htS (by rw [sl2_len, hsp2]) (sl2_one _) (by omega)) hW en108 (by simp) rfl rfl (by show [Value.slice z.la _ _, _, _, _] = _; rw [hla]; rfl) rfl ?_
     rintro _ B9 W ⟨a9, c9, rfl, hO9⟩ hW
     replace hW := hW.perm List.perm_append_comm
     replace hO9 := hO9.castx hln (xs' := sl2 tk) (by rw [htk2, sl2_append, sl2_append, sl2_take, sl2_drop])
     rw [hln]
     refine l_val (r_nilCheck rfl rfl) rfl rfl ?_
     refine l_val (r_fieldAddr 29 Tryz.underlying124 rfl tyA38.size rfl rfl rfl) rfl rfl ?_
     refine l_val (r_fieldAddr 30 Tryz.underlying38 rfl tyC33.size rfl rfl rfl) rfl rfl ?_
     refine l_storeC hW 0 tyC33 (v := .slice a9 tk.length c9) rfl rfl rfl rfl rfl rfl (trR_len (by decide)) rfl ?_
     intro W hW
     refine l_end (n_block (n_then ?_))
     have hround : roundN (2 * nn + 1) z.t = (⟨r3.1, tk, tm, r3.2.2⟩, 0) := by rw [round_0 (hsa1.trans (by rw [hc1])) hsa2 (hsa3.trans (by rw [hc4])), htk, htm]
     have hin := (hrnd.1 (by rw [hround])).1
     have hpt := (hrnd.1 (by rw [hround])).2
     rw [hround] at hin hpt
     exact loop_next ⟨⟨r3.1, tk, tm, r3.2.2⟩, t, [], z.n2, z.bn, a9, c9, B9⟩ (by kernel_rfl) (pickC (show Cl _ (([⟨gx, boC r3.1 t ++ trR nn z.n2 ⟨a9, tk.length, c9⟩ r3.2.2 0, 124⟩] ++ ((L ++ z.bn) ++ [_])) ++ B9) _ from hW)) ⟨hin, heq.trans ((traced_0 hs hnd hrg ht (by rw [hround])).trans (by rw [hround])), by rw [htm2]; exact hnm, hO9⟩ hpt
   ·intro hc4
    refine l_val (r_not rfl rfl) rfl rfl ?_
    refine l_end (n_then ?_)
    refine c_true rfl ?_
    refine c_seq (c_reg ?_)
    refine aP ?_
    refine l_val (r_nilCheck rfl rfl) rfl rfl ?_
    refine l_val (r_fieldAddr 29 Tryz.underlying124 rfl tyA38.size rfl rfl rfl) rfl rfl ?_
    refine l_val (r_fieldAddr 32 Tryz.underlying38 rfl tyC5.size rfl rfl rfl) rfl rfl ?_
    refine l_storeC hW 0 tyC5 (v := .int .u8 2) rfl rfl rfl rfl rfl rfl (trR_len (by decide)) rfl ?_
    intro W hW
    replace hW := (show Cl _ ([⟨gx, boC r3.1 t ++ trR nn z.n2 ⟨z.la, z.t.l.length, z.lc⟩ r3.2.2 2, 124⟩] ++ ((((L ++ z.bn) ++ z.bl) ++ BsS) ++ BO)) _ from hW)
    refine l_end (n_then (c_exit (x_then ?_)))
    refine x_miss (by decide) ?_
    refine x_then ?_
    refine x_hit ?_
    refine n_scope ?_
    refine end_none rfl ?_
    have hround : roundN (2 * nn + 1) z.t = (⟨r3.1, z.t.l, z.t.nm, r3.2.2⟩, 2) := round_2 (hsa1.trans (by rw [hc1])) hsa2 (hsa3.trans (by rw [hc4]))
    have hR : traced (2 * nn + 1) ⟨q, l, [], 0⟩ = (⟨r3.1, z.t.l, z.t.nm, r3.2.2⟩, 2) := heq.trans ((traced_e (by rw [hround]; exact (show (2 : Nat) ≠ 0 by decide))).trans hround)
    exact ⟨_, _, rfl, ⟨z.n2, z.la, z.lc, z.bn, z.bl, by rw [hR], by rw [hR]; exact hnm, by rw [hR]; exact hls⟩, pickF hW⟩
 ·intro hc1
  refine l_val (r_not rfl rfl) rfl rfl ?_
  refine l_end (n_then ?_)
  refine c_true rfl ?_
  refine c_seq (c_reg ?_)
  refine aP ?_
  refine l_val (r_nilCheck rfl rfl) rfl rfl ?_
  refine l_val (r_fieldAddr 29 Tryz.underlying124 rfl tyA38.size rfl rfl rfl) rfl rfl ?_
  refine l_val (r_fieldAddr 32 Tryz.underlying38 rfl tyC5.size rfl rfl rfl) rfl rfl ?_
  refine l_storeC hW 0 tyC5 (v := .int .u8 1) rfl rfl rfl rfl rfl rfl (trR_len (by decide)) rfl ?_
  intro W hW
  replace hW := (show Cl _ ([⟨gx, boC r1.1 t ++ trR nn z.n2 ⟨z.la, z.t.l.length, z.lc⟩ r1.2.2 1, 124⟩] ++ ((((L ++ z.bn) ++ z.bl) ++ BsS) ++ BO)) _ from hW)
  refine l_end (n_then (c_exit (x_then ?_)))
  refine x_miss (by decide) ?_
  refine x_then ?_
  refine x_hit ?_
  refine n_scope ?_
  refine end_none rfl ?_
  have hround : roundN (2 * nn + 1) z.t = (⟨r1.1, z.t.l, z.t.nm, r1.2.2⟩, 1) := round_1 (hsa1.trans (by rw [hc1]))
  have hR : traced (2 * nn + 1) ⟨q, l, [], 0⟩ = (⟨r1.1, z.t.l, z.t.nm, r1.2.2⟩, 1) := heq.trans ((traced_e (by rw [hround]; exact (show (1 : Nat) ≠ 0 by decide))).trans hround)
  exact ⟨_, _, rfl, ⟨z.n2, z.la, z.lc, z.bn, z.bl, by rw [hR], by rw [hR]; exact hnm, by rw [hR]; exact hls⟩, pickF hW⟩

end Go.Proofs.YtoegpalacppllaaGreat

/- A region that draws its order, as in Or2, after one more quiet operation that waits for nothing. -/
namespace Go.Proofs.YtoegpalacppllaaGreat
open Go.RowKit
def closedB (md : Region.Mode) (ops : Array Oper) (d : Array Bool) : Bool := (List.range ops.size).all fun j => !d.getD j false || match ops[j]? with | some o => o.after.all fun e => !Region.binds md e || d.getD e.on false | none => true
section
variable {P : Program} {ops : Array Oper} {Q : Exit → Act → World → Prop} {a : Act} {w0 : Base} {W : World} {L : List Blk} {md : Region.Mode} {S : List Nat} {r : Option (Option Nat)} {m : Nat} {ms : List Mk} {bs : List Value} {us : List (Nat × Value)} {ds : List Deferred}
theorem closedB_spec {d : Array Bool} (h : closedB md ops d = true) : Closed md ops d := by
  intro j oj hj hd e he hb
  have h1 := List.all_eq_true.1 h j (List.mem_range.2 (Array.getElem?_eq_some_iff.1 hj).1)
  simp only [hd, hj, Bool.not_true, Bool.false_or] at h1
  have h2 := Array.all_eq_true_iff_forall_mem.1 h1 e he
  simpa [hb] using h2
def regionW4 (d0 : Array Bool) (ops : Array Oper) (ks ks2 : List Kd) (D ix M D2 ix2 ord rest zs : List Nat) : Bool :=
  Region.noSelect ops && closedB .any ops d0 && (ix.all fun i => !d0.getD i false) && allB .any ops D ix (fun j => ks.getD j .tail) && masksB .any ops M && allB .any ops D2 ix2 (fun j => ks2.getD j .tail) && ((zs ++ (ord ++ rest)).all fun k => Nat.blt k ops.size) && (zs.all fun z => !d0.getD z true) &&
    zsB ops D ix (fun j => ks.getD j .tail) zs && zchB .any ops [] zs && decide zs.Nodup && (zs.all fun z => match ks2.getD z .tail with | .q => true | _ => false) &&
    lexO .any ops (fun j => ks.getD j .tail) ix M (fun o done => (o == rest) && ((zs.all fun z => done.getD z false) && (ix2.all fun i => !zs.contains i && !done.getD i false) && lexO .any ops (fun j => ks2.getD j .tail) ix2 M (fun o done => seqO .any ops o done) (zs ++ rest) (setA false done zs))) (ord ++ rest) (setA true d0 zs)

theorem AW_W (hW : Cl w0 L W) (d0 : Array Bool) {os : List Oper} (S : List Nat) (ks : List Kd) (ms : List Mk) (V : List (List Value)) (ix M S2 : List Nat) (ks2 : List Kd) (D2 ix2 ord rest zs : List Nat) (hB : regionW4 d0 os.toArray ks ks2 (ms.map Mk.d) ix M D2 ix2 ord rest zs = true) (hV : V.length = ms.length) (hd : (ms.all fun k => Nat.blt k.d bs.length) = true) (hd2 : (D2.all fun k => Nat.blt k bs.length) = true)
    (l : Zl) (hlz : l.map (·.1) = zs) (hat : Zat os.toArray l) (hzr : ZevL P w0 S L bs us l)
    (h : lx P os.toArray w0 S ms (fun _ _ => False)
      (fun _ a' s' => Full ms s'.2 a' s'.1 fun a' L' => ∃ (ms2 : List Mk) (V2 : List (List Value)), (ms2.map Mk.d = D2 ∧ V2.length = ms2.length) ∧ lx P os.toArray w0 S2 ms2 (fun a' s' => Full ms2 s'.2 a' s'.1 fun a' L' => ∀ w', Cl w0 L' w' → Q .normal a' w') (fun l' a' s' => Full ms2 s'.2 a' s'.1 fun a' L' => ∀ w', Cl w0 L' w' → LW r m P os.toArray Q l' a' w') ((zs ++ rest).map fun j => ks2.getD j .tail) (pickL os.toArray (zs ++ rest)) a' (L', V2)) ((ord ++ rest).map fun j => ks.getD j .tail) (pickL os.toArray (ord ++ rest)) (fr bs us ds) (L, V)) : AW r m P .any os.toArray Q ((ord ++ rest).length + zs.length) d0 (fr bs us ds) W := by
  subst hlz
  simp only [regionW4, Bool.and_eq_true, decide_eq_true_eq] at hB
  obtain ⟨⟨⟨⟨⟨⟨⟨⟨⟨⟨⟨⟨hsel, hc0B⟩, hix0⟩, hall⟩, hM⟩, hall2⟩, hv⟩, hz0⟩, hzB⟩, hch⟩, hnd⟩, hkz⟩, hlex⟩ := hB
  have hz := zsB_spec hat hzB
  have hchain := zchB_spec hat hch
  have hkz' : ∀ z ∈ l.map (·.1), ks2.getD z .tail = .q := fun z hz => by
    have := List.all_eq_true.1 hkz z hz
    cases hk : ks2.getD z .tail <;> rw [hk] at this <;> first | rfl | cases this
  have hv' : ∀ k ∈ l.map (·.1) ++ (ord ++ rest), k < os.toArray.size := fun k hk => by
    have := List.all_eq_true.1 hv k hk
    rwa [Nat.blt_eq] at this
  have sz : ∀ {k : Mk} {l : List Mk}, (l.all fun k => Nat.blt k.d bs.length) = true → k ∈ l → k.d < (fr bs us ds).tmps.size := fun hl hk => by
    have := List.all_eq_true.1 hl _ hk
    rw [Nat.blt_eq] at this
    simpa [fr, toL_len] using this
  have hz0' : ∀ x ∈ l, d0.getD x.1 true = false := fun x hx => by
    have := List.all_eq_true.1 hz0 x.1 (List.mem_map.2 ⟨x, hx, rfl⟩)
    simpa using this
  have hZ : ZokL P w0 S L (fr bs us ds) l := ZevL.ok l us hzr
  obtain ⟨T, hT⟩ : ∃ T : Act → List Blk → Prop, T = fun a' L' => ∃ (ms2 : List Mk) (V2 : List (List Value)), (ms2.map Mk.d = D2 ∧ V2.length = ms2.length) ∧ lx P os.toArray w0 S2 ms2 (fun a' s' => Full ms2 s'.2 a' s'.1 fun a' L' => ∀ w', Cl w0 L' w' → Q .normal a' w') (fun l' a' s' => Full ms2 s'.2 a' s'.1 fun a' L' => ∀ w', Cl w0 L' w' → LW r m P os.toArray Q l' a' w') ((l.map (·.1) ++ rest).map fun j => ks2.getD j .tail) (pickL os.toArray (l.map (·.1) ++ rest)) a' (L', V2) := ⟨_, rfl⟩
  rw [← hT] at h
  obtain ⟨ck, hck⟩ : ∃ ck : Array Bool → Bool, ck = fun done => ((l.map (·.1)).all fun z => done.getD z false) && (ix2.all fun i => !(l.map (·.1)).contains i && !done.getD i false) && lexO .any os.toArray (fun j => ks2.getD j .tail) ix2 M (fun o done => seqO .any os.toArray o done) (l.map (·.1) ++ rest) (setA false done (l.map (·.1))) := ⟨_, rfl⟩
  have lay2 : ∀ (l : List Nat) (done : Array Bool) (a : Act) (L' : List Blk) (w : World) (ms2 : List Mk) (V2 : List (List Value)), (∀ k ∈ l, k < os.toArray.size) → Closed .any os.toArray done → (∀ i ∈ ix2, done.getD i false = false) → ms2.map Mk.d = D2 → V2.length = ms2.length → a.tmps.size = (fr bs us ds).tmps.size →
      lexO .any os.toArray (fun j => ks2.getD j .tail) ix2 M (fun o done => seqO .any os.toArray o done) l done = true → lx P os.toArray w0 S2 ms2 (fun a' s' => Full ms2 s'.2 a' s'.1 fun a' L' => ∀ w', Cl w0 L' w' → Q .normal a' w') (fun l' a' s' => Full ms2 s'.2 a' s'.1 fun a' L' => ∀ w', Cl w0 L' w' → LW r m P os.toArray Q l' a' w') (l.map fun j => ks2.getD j .tail) (pickL os.toArray l) a (L', V2) → Cl w0 L' w → AW r m P .any os.toArray Q l.length done a w := by
    intro l done a L' w ms2 V2 hl hc hix hD hV2 hsz ht hk hC
    subst hD
    have h1 := anyC_lexO (P := P) (w0 := w0) (S := S2) (ms := ms2) (md := .any) (kd := fun j => ks2.getD j .tail) (ix := ix2) (U := fun f done a s => ∃ o, o.length = f ∧ seqO .any os.toArray o done = true ∧ Full ms2 s.2 a s.1 fun a' L' => ∀ w', Cl w0 L' w' → LW r m P os.toArray Q (pickL os.toArray o) a' w') hM hsel (fun o done a s _ ht hT => ⟨o, rfl, ht, hT⟩) l done a (L', V2) hl hc ht hk
    have h2 := anyC_any (N := a.tmps.size) (P := P) (r := r) (m := m) (Q := Q) (ms := ms2) (allB_spec hall2) (Region.noSelect_spec hsel)
      (fun a s vs Ns w hM hs hC hR => by obtain ⟨L', hp, hk⟩ := Full.use hM hs hR; exact hk w (hC.perm hp)) (fun f done a s vs Ns w hM hs hC _ ⟨o, hf, ht, hT⟩ => by obtain ⟨L', hp, hk⟩ := Full.use hM hs hT; subst hf; exact AW_seqO o done _ w ht (hk w (hC.perm hp))) l.length done a (L', V2) _ _ w (none_made ms2 V2 hV2) (made0 hix) (fun k hk => by rw [hsz]; exact sz (by simpa [List.all_map, Function.comp_def] using hd2) hk) rfl (by
        have : (List.replicate ms2.length ([] : List Blk)).flatten = [] := by simp
        rw [this, List.append_nil]
        exact hC) h1
    rw [none_puts] at h2
    exact h2
  have H : AW r m P .any os.toArray Q ((ord ++ rest).length + (l.map (·.1)).length) d0 (fr bs us ds) W := by
    have hc0 : ∀ (l : Zl) (pre : List Nat) (d : Array Bool), Zat os.toArray l → zchain .any pre l → Closed .any os.toArray d → (∀ i ∈ pre, d.getD i false = true) → (∀ x ∈ l, x.1 < d.size) → Closed .any os.toArray (zset d l) := by
      intro l
      induction l with
      | nil => intro pre d _ _ h _ _; exact h
      | cons x l ih =>
        intro pre d hat hch hc hpre hlt
        refine ih (x.1 :: pre) _ hat.2 hch.2.2 ?_ (fun i hi => ?_) (fun y hy => by simpa using hlt y (by simp [hy]))
        · intro j oj hj hd e he hb
          have hmono : ∀ i, d.getD i false = true → (d.setIfInBounds x.1 true).getD i false = true := fun i h => by
            by_cases hx : x.1 = i
            · subst hx; simp [hlt x (by simp)]
            · rw [getD_set_ne false hx]; exact h
          by_cases hjx : x.1 = j
          · subst hjx
            obtain rfl : oj = x.2.1 := Option.some.inj (hj.symm.trans hat.1)
            exact hmono _ (hpre _ (hch.1 e he hb))
          · rw [getD_set_ne false hjx] at hd
            exact hmono _ (hc j oj hj hd e he hb)
        · rcases List.mem_cons.1 hi with rfl | hi
          · simp [hlt x (by simp)]
          · by_cases hx : x.1 = i
            · subst hx; simp [hlt x (by simp)]
            · rw [getD_set_ne false hx]; exact hpre i hi
    have hcl := hc0 l [] d0 hat hchain (closedB_spec hc0B) (by simp) (fun x hx => getD_false_lt (hz0' x hx))
    rw [← zset_A] at hlex
    have h1 := anyC_lexO (P := P) (w0 := w0) (S := S) (ms := ms) (md := .any) (kd := fun j => ks.getD j .tail) (ix := ix) (R := fun _ _ => False) (T := fun _ a' s' => Full ms s'.2 a' s'.1 T) (U := fun f done a s => f = rest.length ∧ Closed .any os.toArray done ∧ ck done = true ∧ Full ms s.2 a s.1 T)
      hM hsel (fun o done a s hc ht hT => by
        simp only [Bool.and_eq_true, beq_iff_eq] at ht
        refine ⟨by rw [ht.1], hc, ?_, hT⟩
        rw [hck]
        simp only [Bool.and_eq_true]; exact ht.2) (ord ++ rest) (zset d0 l) (fr bs us ds) (L, V) (fun k hk => hv' k (List.mem_append.2 (.inr hk))) hcl hlex h
    have h2 := anyC_zs (N := (fr bs us ds).tmps.size) (P := P) (r := r) (m := m) (Q := Q) (L0 := L) (allB_spec hall) (Region.noSelect_spec hsel) l [] _ hz hchain hnd
      (fun p q hpq f done a s vs Ns w hMd hs hC hsz hcq hdq hSZ ⟨hf, hc, ht, hF⟩ => by
        rw [hck] at ht
        simp only [Bool.and_eq_true] at ht
        obtain ⟨⟨hzt, hix⟩, ht⟩ := ht
        obtain ⟨L', hp, hk⟩ := Full.use hMd hs hF
        rw [hT] at hk
        obtain ⟨ms2, V2, ⟨hD, hV2⟩, hk⟩ := hk
        subst hf
        have hmap : l.map (·.1) = p.map (·.1) ++ q.map (·.1) := by rw [hpq, List.map_append]
        have hcd : Closed .any os.toArray done := by
          cases q with
          | nil => exact hc
          | cons y q => exact hcq (by simp)
        have hback : setA true (setA false (zset done q) (l.map (·.1))) (p.map (·.1)) = done := by
          rw [hmap, zset_A]
          refine setA_back (fun i hi => ?_) (fun i hi => ?_) (by rw [← hmap]; exact hnd)
          · obtain ⟨y, hy, rfl⟩ := List.mem_map.1 hi
            exact hdq y hy
          · rw [← hmap] at hi
            rw [← zset_A]
            exact List.all_eq_true.1 hzt i hi
        rw [hmap, List.append_assoc] at hk
        rw [hmap, List.append_assoc, ← hmap] at ht
        have ht' := lexO_peel (p.map (·.1)) (fun z hz => hkz' z (by rw [hmap]; simp only [List.mem_append]; exact .inl hz)) ht
        rw [hback] at ht'
        have hln : rest.length + q.length = (q.map (·.1) ++ rest).length := by simp [Nat.add_comm]
        rw [hln]
        refine lay2 (q.map (·.1) ++ rest) done _ L' w ms2 V2 (fun k hk => hv' k ?_) hcd (fun i hi => ?_) hD hV2 (by rw [puts_size, zput_size, hsz]) ht' ?_ (hC.perm hp)
        · rcases List.mem_append.1 hk with h | h
          · exact List.mem_append.2 (.inl (by rw [hmap]; exact List.mem_append.2 (.inr h)))
          · exact List.mem_append.2 (.inr (List.mem_append.2 (.inr h)))
        · have := List.all_eq_true.1 hix i hi
          simp only [Bool.and_eq_true, Bool.not_eq_true'] at this
          have h2 := this.2
          rw [zset_ne q false fun y hy e => ?_] at h2
          · exact h2
          · have h3 := this.1
            have : (l.map (·.1)).contains i = true := by
              rw [List.contains_iff_mem, ← e, hmap]
              exact List.mem_append.2 (.inr (List.mem_map.2 ⟨y, hy, rfl⟩))
            rw [this] at h3; cases h3
        · cases p with
          | nil => exact hk
          | cons x p =>
            obtain ⟨hS, hZ⟩ := hSZ (by rw [hpq]; simp)
            have hZp : ∀ (p q : Zl) (a : Act), ZokL P w0 S L a (p ++ q) → ZokL P w0 S L a p := by
              intro p
              induction p with
              | nil => intro q a _; trivial
              | cons y p ih => intro q a h; exact ⟨h.1, ih q _ h.2⟩
            rw [hpq] at hZ
            refine lx_peel (kd := fun j => ks2.getD j .tail) (hC.perm hp) ⟨_, hS.trans (Sim.more S s.1 Ns.flatten), hC⟩ (Region.noSelect_spec hsel) (x :: p) (q.map (·.1) ++ rest) a (fun y hy => ?_) (fun y hy => ?_) (hZp _ _ _ hZ) hk
            · have hyl : y ∈ l := by rw [hpq]; exact List.mem_append.2 (.inl hy)
              exact ⟨(hz y hyl).at_, (hz y hyl).guard, (hz y hyl).ds⟩
            · exact hkz' y.1 (List.mem_map.2 ⟨y, by rw [hpq]; exact List.mem_append.2 (.inl hy), rfl⟩))
      (ord ++ rest).length d0 (fr bs us ds) (L, V) _ _ W (Sim.refl _ _) hZ (closedB_spec hc0B) hz0' (by simp) (none_made ms V hV) (made0 fun i hi => by
        have := List.all_eq_true.1 hix0 i hi
        simpa using this) (fun k hk => sz hd hk) rfl (by
        have : (List.replicate ms.length ([] : List Blk)).flatten = [] := by simp
        rw [this, List.append_nil]
        exact hW) h1
    rw [none_puts] at h2
    rw [List.length_map]
    exact h2
  exact H
def regionM (ops : Array Oper) (y n : Nat) : Bool := Region.noSelect ops && Region.free .any ops (Array.replicate ops.size false) y && (Region.ready .any ops (Array.replicate ops.size false)).contains y && (n + 1 == ops.size)
/-- a move that waits for nothing, then what Or2 can do -/
theorem c_regMv (hW : Cl w0 L W) {id : Nat} {os : List Oper} (y dy : Nat) (oy : Oper) (vy : Value) (S : List Nat) (ks : List Kd) (ms : List Mk) (V : List (List Value)) (ix M S2 : List Nat) (ks2 : List Kd) (D2 ix2 ord rest zs : List Nat) (hm : P.follows .mixedOrders = true)
    (hy : os.toArray[y]? = some oy) (hdy : oy.dst = some dy) (hgy : oy.guard = none) (hvy : ∀ w, (execOp (ev bs us) oy).run P w = .ok (.value vy) w) (hQ : ∀ c a w, Q (.panic c) (a.put oy.dst vy) w → Q (.panic c) a w) (hM : regionM os.toArray y ((ord ++ rest).length + zs.length) = true)
    (hB : regionW4 ((Array.replicate os.toArray.size false).setIfInBounds y true) os.toArray ks ks2 (ms.map Mk.d) ix M D2 ix2 ord rest zs = true) (hV : V.length = ms.length) (hd : (ms.all fun k => Nat.blt k.d bs.length) = true) (hd2 : (D2.all fun k => Nat.blt k bs.length) = true)
    (l : Zl) (hlz : l.map (·.1) = zs) (hat : Zat os.toArray l) (hzr : ZevL P w0 S L bs ((dy, vy) :: us) l)
    (h : lx P os.toArray w0 S ms (fun _ _ => False)
      (fun _ a' s' => Full ms s'.2 a' s'.1 fun a' L' => ∃ (ms2 : List Mk) (V2 : List (List Value)), (ms2.map Mk.d = D2 ∧ V2.length = ms2.length) ∧ lx P os.toArray w0 S2 ms2 (fun a' s' => Full ms2 s'.2 a' s'.1 fun a' L' => ∀ w', Cl w0 L' w' → Q .normal a' w') (fun l' a' s' => Full ms2 s'.2 a' s'.1 fun a' L' => ∀ w', Cl w0 L' w' → LW none m P os.toArray Q l' a' w') ((zs ++ rest).map fun j => ks2.getD j .tail) (pickL os.toArray (zs ++ rest)) a' (L', V2)) ((ord ++ rest).map fun j => ks.getD j .tail) (pickL os.toArray (ord ++ rest)) (fr bs ((dy, vy) :: us) ds) (L, V)) : CW none m P (Code.region id os.toArray true) Q (fr bs us ds) W := by
  simp only [regionM, Bool.and_eq_true, beq_iff_eq] at hM
  obtain ⟨⟨⟨hs, hf⟩, hr⟩, hn⟩ := hM
  have h0 : ∀ F, F = os.toArray.size → wpAny P .any os.toArray Q F (Array.replicate os.toArray.size false) (fr bs us ds) W.drew → CW none m P (Code.region id os.toArray true) Q (fr bs us ds) W := fun F hF h => by subst hF; exact wp_region_any hm h
  refine h0 _ hn ?_
  have h1 := AW_W (r := none) (m := m) hW.drew ((Array.replicate os.toArray.size false).setIfInBounds y true) S ks ms V ix M S2 ks2 D2 ix2 ord rest zs hB hV hd hd2 l hlz hat hzr h
  refine wpAny_take hy hs hf hr hQ (.inl ⟨by simp [Region.wanted, hgy], fun w => by rw [eval_ev]; exact hvy w⟩) ?_
  rw [hdy, put_st]
  exact h1
end
end Go.Proofs.YtoegpalacppllaaGreat

