/- Part 3 of 4: what the law of this claim leans on -/
import Derived.Test.YtoegpalacppllaaPkH2
import Derived.Sort.Grow
import Derived.Lib.AppendZerosOnto
import Derived.Shelf.Small.Bits
import Derived.Shelf.Strconv.Itoa0
import Derived.Shelf.Sort.Plain
import Derived.Ground.Names2Prog
import Derived.Shelf.Slices.CompactI
import Derived.Shelf.Slices.SearchI
import Derived.Shelf.Slices.Cells
import Derived.Shelf.Slices.In.SortNone
import Derived.Shelf.Slices.Empties
import Derived.Test.YtoegpalacppllaaProg
/- Whether a hunt is valid, by the program. -/
namespace Go.Proofs.Ytoegpalacppllaa
open Go.RowKit Pl
open Tr Hn
set_option maxRecDepth 10000 in
/-- headend/trace.CheckHunt -/
theorem g_CheckHunt (h : Hu) (pa : Option Addr) (pn pc : Nat) (r q : Sl) (ss : List Sl) (hsm : Small h) (hfit : pn * 48 ≤ 140737488351232) : GivesR Try.prog 27 [.agg [.int .i64 h.users, .slice pa pn pc, .slice r.a r.n r.c, .slice q.a q.n q.c, .int .i64 h.rounds].toArray].toArray (fun w => RdHu w h ⟨pa, pn, pc⟩ r q ss) (.int .i64 (chkH h)) := by
  refine givesR_of Try.func27 rfl (bs := [.agg [.int .i64 h.users, .slice pa pn pc, .slice r.a r.n r.c, .slice q.a q.n q.c, .int .i64 h.rounds].toArray, undef, undef, undef, undef, undef, undef, undef, undef, undef, undef, undef, undef, undef, undef, undef, undef, undef, undef, undef, undef, undef, undef, undef, undef, undef, undef, undef, undef, undef, undef, undef, undef, undef, undef, undef, undef, undef, undef, undef, undef, undef, undef, undef, undef, undef, undef, undef, undef, undef, undef, undef, undef, undef, undef, undef, undef, undef, undef, undef, undef, undef, undef, undef, undef, undef, undef, undef, undef, undef, undef, undef]) rfl ?_
  intro w hP hW
  have hpn := hP.pn
  have hpl := hP.len
  simp only at hpn
  have hgl := hP.gl
  have hgs := hsm.sum
  have hone := hsm.one
  have hl1 := hone h.rest (by simp [groups])
  have hl2 := hone h.named (by simp [groups])
  refine c_seq ?_
  refine c_reg ?_
  refine l_box hW rfl rfl rfl rfl ?_
  intro g1 W hW
  refine l_val (r_assign (v := .int _ _) rfl rfl) rfl rfl ?_
  refine l_end ?_
  refine n_then ?_
  refine c_seq ?_
  refine c_seq ?_
  refine c_reg ?_
  refine l_val (r_fieldAddr 0 Try.underlying52 rfl tyC3.size rfl rfl rfl) rfl rfl ?_
  refine l_loadC hW 0 tyC3 rfl rfl rfl rfl rfl rfl ?_
  refine l_val (r_lss rfl rfl rfl rfl) rfl rfl ?_
  refine l_split ?_ ?_
  · intro hc1
    replace hc1 := of_decide_eq_true hc1
    refine l_val (r_move (v := .bool _) rfl rfl) rfl rfl ?_
    refine l_not (by kernel_rfl) rfl ?_
    refine l_not (by kernel_rfl) rfl ?_
    refine l_not (by kernel_rfl) rfl ?_
    refine l_val (r_pick (v := .bool _) rfl rfl rfl) rfl rfl ?_
    refine l_val (r_move (v := .bool _) rfl rfl) rfl rfl ?_
    refine l_not (by kernel_rfl) rfl ?_
    refine l_not (by kernel_rfl) rfl ?_
    refine l_not (by kernel_rfl) rfl ?_
    refine l_val (r_pick (v := .bool _) rfl rfl rfl) rfl rfl ?_
    refine l_val (r_move (v := .bool _) rfl rfl) rfl rfl ?_
    refine l_not (by kernel_rfl) rfl ?_
    refine l_not (by kernel_rfl) rfl ?_
    refine l_not (by kernel_rfl) rfl ?_
    refine l_val (r_pick (v := .bool _) rfl rfl rfl) rfl rfl ?_
    refine l_val (r_move (v := .bool _) rfl rfl) rfl rfl ?_
    refine l_not (by kernel_rfl) rfl ?_
    refine l_not (by kernel_rfl) rfl ?_
    refine l_not (by kernel_rfl) rfl ?_
    refine l_not (by kernel_rfl) rfl ?_
    refine l_val (r_pick (v := .bool _) rfl rfl rfl) rfl rfl ?_
    refine l_end ?_
    refine n_then ?_
    refine c_true rfl ?_
    refine c_seq ?_
    refine c_reg ?_
    refine l_val (r_assign (v := .int _ _) rfl rfl) rfl rfl ?_
    refine l_end ?_
    refine n_then ?_
    refine c_ret ?_
    refine r_then ?_
    refine ret_tmp (v := .int .i64 (chkH h)) rfl ?_ ⟨rfl, hW.below⟩
    rw [chkH_no (vb_bounds (by omega))]; rfl
  · intro hc1
    replace hc1 := of_decide_eq_false hc1
    refine l_val (r_move (v := .bool _) rfl rfl) rfl rfl ?_
    refine l_valG (r_fieldAddr 0 Try.underlying52 rfl tyC3.size rfl rfl rfl) (by kernel_rfl) rfl ?_
    refine l_loadCG hW 0 tyC3 (by kernel_rfl) rfl rfl rfl rfl rfl ?_
    refine l_valG (r_gtr rfl rfl rfl rfl) (by kernel_rfl) rfl ?_
    refine l_split ?_ ?_
    · intro hc2
      replace hc2 := of_decide_eq_true hc2
      refine l_val (r_pick (v := .bool _) rfl rfl rfl) rfl rfl ?_
      refine l_val (r_move (v := .bool _) rfl rfl) rfl rfl ?_
      refine l_not (by kernel_rfl) rfl ?_
      refine l_not (by kernel_rfl) rfl ?_
      refine l_not (by kernel_rfl) rfl ?_
      refine l_val (r_pick (v := .bool _) rfl rfl rfl) rfl rfl ?_
      refine l_val (r_move (v := .bool _) rfl rfl) rfl rfl ?_
      refine l_not (by kernel_rfl) rfl ?_
      refine l_not (by kernel_rfl) rfl ?_
      refine l_not (by kernel_rfl) rfl ?_
      refine l_val (r_pick (v := .bool _) rfl rfl rfl) rfl rfl ?_
      refine l_val (r_move (v := .bool _) rfl rfl) rfl rfl ?_
      refine l_not (by kernel_rfl) rfl ?_
      refine l_not (by kernel_rfl) rfl ?_
      refine l_not (by kernel_rfl) rfl ?_
      refine l_not (by kernel_rfl) rfl ?_
      refine l_val (r_pick (v := .bool _) rfl rfl rfl) rfl rfl ?_
      refine l_end ?_
      refine n_then ?_
      refine c_true rfl ?_
      refine c_seq ?_
      refine c_reg ?_
      refine l_val (r_assign (v := .int _ _) rfl rfl) rfl rfl ?_
      refine l_end ?_
      refine n_then ?_
      refine c_ret ?_
      refine r_then ?_
      refine ret_tmp (v := .int .i64 (chkH h)) rfl ?_ ⟨rfl, hW.below⟩
      rw [chkH_no (vb_bounds (by omega))]; rfl
    · intro hc2
      replace hc2 := of_decide_eq_false hc2
      refine l_val (r_pick (v := .bool _) rfl rfl rfl) rfl rfl ?_
      refine l_val (r_move (v := .bool _) rfl rfl) rfl rfl ?_
      refine l_valG (r_fieldAddr 4 Try.underlying52 rfl tyC3.size rfl rfl rfl) (by kernel_rfl) rfl ?_
      refine l_loadCG hW 0 tyC3 (by kernel_rfl) rfl rfl rfl rfl rfl ?_
      refine l_valG (r_lss rfl rfl rfl rfl) (by kernel_rfl) rfl ?_
      refine l_split ?_ ?_
      · intro hc3
        replace hc3 := of_decide_eq_true hc3
        refine l_val (r_pick (v := .bool _) rfl rfl rfl) rfl rfl ?_
        refine l_val (r_move (v := .bool _) rfl rfl) rfl rfl ?_
        refine l_not (by kernel_rfl) rfl ?_
        refine l_not (by kernel_rfl) rfl ?_
        refine l_not (by kernel_rfl) rfl ?_
        refine l_val (r_pick (v := .bool _) rfl rfl rfl) rfl rfl ?_
        refine l_val (r_move (v := .bool _) rfl rfl) rfl rfl ?_
        refine l_not (by kernel_rfl) rfl ?_
        refine l_not (by kernel_rfl) rfl ?_
        refine l_not (by kernel_rfl) rfl ?_
        refine l_not (by kernel_rfl) rfl ?_
        refine l_val (r_pick (v := .bool _) rfl rfl rfl) rfl rfl ?_
        refine l_end ?_
        refine n_then ?_
        refine c_true rfl ?_
        refine c_seq ?_
        refine c_reg ?_
        refine l_val (r_assign (v := .int _ _) rfl rfl) rfl rfl ?_
        refine l_end ?_
        refine n_then ?_
        refine c_ret ?_
        refine r_then ?_
        refine ret_tmp (v := .int .i64 (chkH h)) rfl ?_ ⟨rfl, hW.below⟩
        rw [chkH_no (vb_bounds (by omega))]; rfl
      · intro hc3
        replace hc3 := of_decide_eq_false hc3
        refine l_val (r_pick (v := .bool _) rfl rfl rfl) rfl rfl ?_
        refine l_val (r_move (v := .bool _) rfl rfl) rfl rfl ?_
        refine l_valG (r_fieldAddr 4 Try.underlying52 rfl tyC3.size rfl rfl rfl) (by kernel_rfl) rfl ?_
        refine l_loadCG hW 0 tyC3 (by kernel_rfl) rfl rfl rfl rfl rfl ?_
        refine l_valG (r_gtr rfl rfl rfl rfl) (by kernel_rfl) rfl ?_
        refine l_split ?_ ?_
        · intro hc4
          replace hc4 := of_decide_eq_true hc4
          refine l_val (r_pick (v := .bool _) rfl rfl rfl) rfl rfl ?_
          refine l_val (r_move (v := .bool _) rfl rfl) rfl rfl ?_
          refine l_not (by kernel_rfl) rfl ?_
          refine l_not (by kernel_rfl) rfl ?_
          refine l_not (by kernel_rfl) rfl ?_
          refine l_not (by kernel_rfl) rfl ?_
          refine l_val (r_pick (v := .bool _) rfl rfl rfl) rfl rfl ?_
          refine l_end ?_
          refine n_then ?_
          refine c_true rfl ?_
          refine c_seq ?_
          refine c_reg ?_
          refine l_val (r_assign (v := .int _ _) rfl rfl) rfl rfl ?_
          refine l_end ?_
          refine n_then ?_
          refine c_ret ?_
          refine r_then ?_
          refine ret_tmp (v := .int .i64 (chkH h)) rfl ?_ ⟨rfl, hW.below⟩
          rw [chkH_no (vb_bounds (by omega))]; rfl
        · intro hc4
          replace hc4 := of_decide_eq_false hc4
          refine l_val (r_pick (v := .bool _) rfl rfl rfl) rfl rfl ?_
          refine l_val (r_move (v := .bool _) rfl rfl) rfl rfl ?_
          refine l_valG (r_fieldAddr 1 Try.underlying52 rfl tyC50.size rfl rfl rfl) (by kernel_rfl) rfl ?_
          refine l_loadCG hW 0 tyC50 (by kernel_rfl) rfl rfl rfl rfl rfl ?_
          refine l_valG (r_lenSlice Try.underlying50 rfl rfl) (by kernel_rfl) rfl ?_
          refine l_valG (r_gtrN (n := 64) rfl rfl rfl rfl) (by kernel_rfl) rfl ?_
          refine l_split ?_ ?_
          · intro hc5
            replace hc5 := of_decide_eq_true hc5
            refine l_val (r_pick (v := .bool _) rfl rfl rfl) rfl rfl ?_
            refine l_end ?_
            refine n_then ?_
            refine c_true rfl ?_
            refine c_seq ?_
            refine c_reg ?_
            refine l_val (r_assign (v := .int _ _) rfl rfl) rfl rfl ?_
            refine l_end ?_
            refine n_then ?_
            refine c_ret ?_
            refine r_then ?_
            refine ret_tmp (v := .int .i64 (chkH h)) rfl ?_ ⟨rfl, hW.below⟩
            rw [chkH_no (vb_bounds (by omega))]; rfl
          · intro hc5
            replace hc5 := of_decide_eq_false hc5
            obtain ⟨un, hun⟩ := Int.eq_ofNat_of_zero_le (a := h.users) (by omega)
            refine l_val (r_pick (v := .bool _) rfl rfl rfl) rfl rfl ?_
            refine l_end ?_
            refine n_then ?_
            refine c_false rfl ?_
            refine c_skip ?_
            refine n_then ?_
            refine c_seq ?_
            refine c_reg ?_
            refine l_val (r_fieldAddr 0 Try.underlying52 rfl tyC3.size rfl rfl rfl) rfl rfl ?_
            refine l_loadC hW 0 tyC3 rfl rfl rfl rfl rfl rfl ?_
            refine l_makeSlice hW tyE92 (z := .bool false) (v := .bool false) (n := un) (k := un) tyZE92 rfl rfl rfl (congrArg (Value.int .i64) hun) (congrArg (Value.int .i64) hun) rfl (by omega) (by decide) (Nat.mul_one _) ?_
            intro gm W hW
            rw [← marks_nil] at hW
            refine l_allocC hW tyZ92 rfl rfl rfl rfl ?_
            intro g2 W hW
            refine l_storeC hW 0 tyC92 (v := .slice _ _ _) rfl rfl rfl rfl rfl rfl (by first | rfl | omega | (simp; done) | (simp; omega)) rfl ?_
            intro W hW
            refine l_end ?_
            refine n_then ?_
            refine c_seq ?_
            refine c_reg ?_
            refine l_val (r_fieldAddr 0 Try.underlying52 rfl tyC3.size rfl rfl rfl) rfl rfl ?_
            refine l_loadC hW 2 tyC3 rfl rfl rfl rfl rfl rfl ?_
            refine l_allocC hW tyZ3 rfl rfl rfl rfl ?_
            intro g3 W hW
            refine l_storeC hW 0 tyC3 (v := .int _ _) rfl rfl rfl rfl rfl rfl (by first | rfl | omega | (simp; done) | (simp; omega)) rfl ?_
            intro W hW
            refine l_end ?_
            refine n_then ?_
            refine c_seq ?_
            refine c_reg ?_
            refine l_val (r_closure (vs := [.pointer (some ⟨g1, 0, none⟩), .pointer (some ⟨g2, 0, none⟩), .pointer (some ⟨g3, 0, none⟩)]) rfl rfl) rfl rfl ?_
            refine l_val (r_assign (v := .func _ _ _) rfl rfl) rfl rfl ?_
            refine l_end ?_
            refine n_then ?_
            refine c_seq ?_
            refine c_seq ?_
            refine c_reg ?_
            refine l_val (r_move (v := .func _ _ _) rfl rfl) rfl rfl ?_
            refine l_val (r_fieldAddr 2 Try.underlying52 rfl tyC35.size rfl rfl rfl) rfl rfl ?_
            refine l_loadC hW 3 tyC35 rfl rfl rfl rfl rfl rfl ?_
            refine l_callVS (L := []) (args := [.slice r.a r.n r.c, .bool true]) (cap := [.pointer (some ⟨g1, 0, none⟩), .pointer (some ⟨g2, 0, none⟩), .pointer (some ⟨g3, 0, none⟩)]) (g_fit r.a r.n r.c h.rest true h _ _ _ r q ([]) un un g3 g2 gm g1 (h.users) ((by simp)) hun (by omega) (by omega) (by first | omega | (simp only [List.length_append]; omega) | simp)) hW en55 (RdS.of hP.rest) (by kernel_rfl) rfl rfl rfl rfl ?_
            rintro _ _ W ⟨sa, rfl, rfl, hsa⟩ hW
            replace hW := hW.perm (List.perm_append_comm (l₁ := [_, _, _, _]) (l₂ := []))
            refine l_split ?_ ?_
            · intro hc6
              obtain rfl : sa = h.rest := hsa hc6
              refine l_val (r_not rfl rfl) rfl rfl ?_
              refine l_val (r_move (v := .bool _) rfl rfl) rfl rfl ?_
              refine l_valG (r_move (v := .func _ _ _) rfl rfl) (by kernel_rfl) rfl ?_
              refine l_valG (r_fieldAddr 3 Try.underlying52 rfl tyC35.size rfl rfl rfl) (by kernel_rfl) rfl ?_
              refine l_loadCG hW 3 tyC35 (by kernel_rfl) rfl rfl rfl rfl rfl ?_
              refine l_callVS (L := []) (args := [.slice q.a q.n q.c, .bool true]) (cap := [.pointer (some ⟨g1, 0, none⟩), .pointer (some ⟨g2, 0, none⟩), .pointer (some ⟨g3, 0, none⟩)]) (g_fit q.a q.n q.c h.named true h _ _ _ r q (h.rest) un un g3 g2 gm g1 (h.users - (h.rest.length : Int)) (rfl) hun (by omega) (by omega) (by first | omega | (simp only [List.length_append]; omega) | simp)) hW en55 (RdS.of hP.named) (by kernel_rfl) rfl rfl rfl rfl ?_
              rintro _ _ W ⟨sb, rfl, rfl, hsb⟩ hW
              replace hW := hW.perm (List.perm_append_comm (l₁ := [_, _, _, _]) (l₂ := []))
              refine l_split ?_ ?_
              · intro hc7
                obtain rfl : sb = h.rest ++ h.named := hsb hc7
                refine l_valG (r_not rfl rfl) (by kernel_rfl) rfl ?_
                refine l_val (r_pick (v := .bool _) rfl rfl rfl) rfl rfl ?_
                refine l_end ?_
                refine n_then ?_
                refine c_false rfl ?_
                refine c_skip ?_
                refine n_then ?_
                refine c_seq ?_
                refine c_seq ?_
                refine c_reg ?_
                refine l_val (r_fieldAddr 1 Try.underlying52 rfl tyC50.size rfl rfl rfl) rfl rfl ?_
                refine l_loadC hW 3 tyC50 rfl rfl rfl rfl rfl rfl ?_
                refine l_val (r_lenSlice Try.underlying50 rfl rfl) rfl rfl ?_
                refine l_val (r_move (v := .int _ _) rfl rfl) rfl rfl ?_
                refine l_end ?_
                refine n_then ?_
                refine c_block ?_
                refine c_loop (fun (x : Nat × List Int) (j : Nat → Value) => [.agg [.int .i64 h.users, .slice pa pn pc, .slice r.a r.n r.c, .slice q.a q.n q.c, .int .i64 h.rounds].toArray, .pointer (some ⟨g1, 0, none⟩), j 2, .pointer (some ⟨g2, 0, none⟩), .pointer (some ⟨g3, 0, none⟩), .func (.func 55) #[] #[.pointer (some ⟨g1, 0, none⟩), .pointer (some ⟨g2, 0, none⟩), .pointer (some ⟨g3, 0, none⟩)], j 6, j 7, .pointer (some ⟨g1, 0, none⟩), .int .i64 h.users, .bool false, .bool false, .pointer (some ⟨g1, 0, none⟩), .int .i64 h.users, .bool false, .bool false, .bool false, .pointer (some ⟨g1, 4, none⟩), .int .i64 h.rounds, .bool false, .bool false, .bool false, .pointer (some ⟨g1, 4, none⟩), .int .i64 h.rounds, .bool false, .bool false, .bool false, .pointer (some ⟨g1, 1, none⟩), .slice pa pn pc, j 29, .bool false, .bool false, .pointer (some ⟨g1, 0, none⟩), .int .i64 h.users, .slice (some ⟨gm, 0, none⟩) un un, .pointer (some ⟨g1, 0, none⟩), .int .i64 h.users, j 37, j 38, .pointer (some ⟨g1, 2, none⟩), .slice r.a r.n r.c, .bool true, .bool false, .bool false, j 44, .pointer (some ⟨g1, 3, none⟩), .slice q.a q.n q.c, .bool true, .bool false, .bool false, .pointer (some ⟨g1, 1, none⟩), .slice pa pn pc, .int .i64 (pn : Int), .int .i64 (x.1 : Int), j 54, j 55, j 56, j 57, j 58, j 59, j 60, j 61, j 62, j 63, j 64, j 65, j 66, j 67, j 68, j 69, j 70, j 71]) (fun (x : Nat × List Int) => [⟨g3, [.int .i64 (h.users - (x.2.length : Int))], 3⟩, ⟨g2, [.slice (some ⟨gm, 0, none⟩) un un], 92⟩, ⟨gm, marks x.2 un, 4⟩, ⟨g1, [.int .i64 h.users, .slice pa pn pc, .slice r.a r.n r.c, .slice q.a q.n q.c, .int .i64 h.rounds], 52⟩]) (fun (x : Nat × List Int) => x.1 ≤ pn ∧ x.2.length = sumL ((groups h).take (2 + 2 * x.1)) ∧ fitsB h.users x.2 (h.ps.drop (2 * x.1)) = fitsB h.users (h.rest ++ h.named) h.ps) (fun (x : Nat × List Int) => pn - x.1) (0, h.rest ++ h.named) (by kernel_rfl) hW ⟨Nat.zero_le _, by simp [groups, sumL], rfl⟩ ?_
                intro x j W hx hW
                obtain ⟨hx, hm, hg⟩ := hx
                have hle := sumL_take_le (groups h) (2 + 2 * x.1)
                refine c_seq ?_
                refine c_reg ?_
                refine l_val (r_lssN rfl rfl rfl rfl) rfl rfl ?_
                refine l_split ?_ ?_
                · intro hc8
                  replace hc8 := of_decide_eq_true hc8
                  have hlt : x.1 < pn := by omega
                  obtain ⟨b0, o0, rfl⟩ := hP.ptr (by omega)
                  obtain ⟨s0, s1, l0, l1, e0, e1, f0, f1, c0, c1, hr0, hr1⟩ := hP.side2 hlt
                  have hl0 := hsm.one l0 (by simp [groups, List.mem_of_getElem? f0])
                  have hl1 := hsm.one l1 (by simp [groups, List.mem_of_getElem? f1])
                  have hy0 := hone l0 (List.mem_of_getElem? (i := 2 * x.1 + 2) f0)
                  have hy1 := hone l1 (List.mem_of_getElem? (i := 2 * x.1 + 3) f1)
                  rw [fits_two f0 f1] at hg
                  refine l_end ?_
                  refine n_then ?_
                  refine c_seq ?_
                  refine c_true rfl ?_
                  refine c_skip ?_
                  refine n_then ?_
                  refine c_seq ?_
                  refine c_block ?_
                  refine c_seq ?_
                  refine c_reg ?_
                  refine l_val (r_indexAddrSl Try.underlying50 tyA99.size rfl rfl rfl (by omega)) rfl rfl ?_
                  refine l_loadFs hW tyA99 (vs := [s0.v, s1.v]) (two_cells c0 c1) rfl rfl rfl rfl rfl ?_
                  refine l_alloc hW tyZ99 rfl rfl rfl ?_
                  intro g4 W hW
                  refine l_storeA hW 0 tyA99 rfl rfl rfl rfl rfl rfl (by first | rfl | exact kc_len _ | exact kcf_len _ | (simp; done)) (by first | rfl | exact kc_len _ | exact kcf_len _ | (simp; done)) (by first | exact kc_one _ | exact kcf_one _ | (simp [Value.oneCell']; done)) ?_
                  intro W hW
                  refine l_end ?_
                  refine n_then ?_
                  refine c_seq ?_
                  refine c_reg ?_
                  refine l_val (r_move (v := .func _ _ _) rfl rfl) rfl rfl ?_
                  refine l_val (r_fieldAddr 0 Try.underlying99 rfl tyC35.size rfl rfl rfl) rfl rfl ?_
                  refine l_loadC hW 0 tyC35 rfl rfl rfl rfl rfl rfl ?_
                  refine l_callVS (L := [⟨g4, [.slice s0.a s0.n s0.c, .slice s1.a s1.n s1.c], 99⟩]) (args := [.slice s0.a s0.n s0.c, .bool false]) (cap := [.pointer (some ⟨g1, 0, none⟩), .pointer (some ⟨g2, 0, none⟩), .pointer (some ⟨g3, 0, none⟩)]) (g_fit s0.a s0.n s0.c l0 false h _ _ _ r q (x.2) un un g3 g2 gm g1 (h.users - (x.2.length : Int)) (rfl) hun (by omega) (by omega) (by first | omega | (simp only [List.length_append]; omega) | simp)) (hW.perm (List.perm_append_comm (l₁ := [_]) (l₂ := [_, _, _, _]))) en55 (RdS.of hr0) (by kernel_rfl) rfl rfl rfl rfl ?_
                  rintro _ _ W ⟨sc, rfl, rfl, hsc⟩ hW
                  replace hW := hW.perm (List.perm_append_comm (l₁ := [_, _, _, _]) (l₂ := [_]))
                  refine l_split ?_ ?_
                  · intro hc9
                    obtain rfl : sc = x.2 ++ l0 := hsc hc9
                    refine l_val (r_not rfl rfl) rfl rfl ?_
                    refine l_val (r_move (v := .bool _) rfl rfl) rfl rfl ?_
                    refine l_valG (r_move (v := .func _ _ _) rfl rfl) (by kernel_rfl) rfl ?_
                    refine l_valG (r_fieldAddr 1 Try.underlying99 rfl tyC35.size rfl rfl rfl) (by kernel_rfl) rfl ?_
                    refine l_loadCG hW 0 tyC35 (by kernel_rfl) rfl rfl rfl rfl rfl ?_
                    refine l_callVS (L := [⟨g4, [.slice s0.a s0.n s0.c, .slice s1.a s1.n s1.c], 99⟩]) (args := [.slice s1.a s1.n s1.c, .bool false]) (cap := [.pointer (some ⟨g1, 0, none⟩), .pointer (some ⟨g2, 0, none⟩), .pointer (some ⟨g3, 0, none⟩)]) (g_fit s1.a s1.n s1.c l1 false h _ _ _ r q (x.2 ++ l0) un un g3 g2 gm g1 (h.users - ((x.2 ++ l0).length : Int)) (rfl) hun (by omega) (by omega) (by first | omega | (simp only [List.length_append]; omega) | simp)) (hW.perm (List.perm_append_comm (l₁ := [_]) (l₂ := [_, _, _, _]))) en55 (RdS.of hr1) (by kernel_rfl) rfl rfl rfl rfl ?_
                    rintro _ _ W ⟨sd, rfl, rfl, hsd⟩ hW
                    replace hW := hW.perm (List.perm_append_comm (l₁ := [_, _, _, _]) (l₂ := [_]))
                    refine l_split ?_ ?_
                    · intro hc10
                      obtain rfl : sd = (x.2 ++ l0) ++ l1 := hsd hc10
                      refine l_valG (r_not rfl rfl) (by kernel_rfl) rfl ?_
                      refine l_val (r_pick (v := .bool _) rfl rfl rfl) rfl rfl ?_
                      refine l_end ?_
                      refine n_then ?_
                      refine c_false rfl ?_
                      refine c_skip ?_
                      refine n_block ?_
                      refine n_then ?_
                      refine c_reg ?_
                      refine l_val (r_addN (n := 1) rfl rfl rfl (by omega)) rfl rfl ?_
                      refine l_val (r_move (v := .int _ _) rfl rfl) rfl rfl ?_
                      refine l_end ?_
                      refine n_then ?_
                      exact loop_next (x.1 + 1, (x.2 ++ l0) ++ l1) (by kernel_rfl) (hW.drop 1) ⟨by simp only; omega, by simp only [List.length_append]; rw [sum_two f0 f1]; omega, by simp only; rw [← hg, hc9, hc10]; simp⟩ (by simp only; omega)
                    · intro hc10
                      refine l_valG (r_not rfl rfl) (by kernel_rfl) rfl ?_
                      refine l_val (r_pick (v := .bool _) rfl rfl rfl) rfl rfl ?_
                      refine l_end ?_
                      refine n_then ?_
                      refine c_true rfl ?_
                      refine c_seq ?_
                      refine c_reg ?_
                      refine l_val (r_assign (v := .int _ _) rfl rfl) rfl rfl ?_
                      refine l_end ?_
                      refine n_then ?_
                      refine c_ret ?_
                      refine r_block ?_
                      refine r_then ?_
                      refine r_then ?_
                      refine r_block ?_
                      refine r_then ?_
                      refine ret_tmp (v := .int .i64 (chkH h)) rfl ?_ ⟨rfl, hW.below⟩
                      rw [prog_no (.inr (.inr (.inl (by rw [← hg, hc9, hc10]; simp))))]; rfl
                  · intro hc9
                    refine l_val (r_not rfl rfl) rfl rfl ?_
                    refine l_val (r_move (v := .bool _) rfl rfl) rfl rfl ?_
                    refine l_not (by kernel_rfl) rfl ?_
                    refine l_not (by kernel_rfl) rfl ?_
                    refine l_not (by kernel_rfl) rfl ?_
                    refine l_not (by kernel_rfl) rfl ?_
                    refine l_not (by kernel_rfl) rfl ?_
                    refine l_val (r_pick (v := .bool _) rfl rfl rfl) rfl rfl ?_
                    refine l_end ?_
                    refine n_then ?_
                    refine c_true rfl ?_
                    refine c_seq ?_
                    refine c_reg ?_
                    refine l_val (r_assign (v := .int _ _) rfl rfl) rfl rfl ?_
                    refine l_end ?_
                    refine n_then ?_
                    refine c_ret ?_
                    refine r_block ?_
                    refine r_then ?_
                    refine r_then ?_
                    refine r_block ?_
                    refine r_then ?_
                    refine ret_tmp (v := .int .i64 (chkH h)) rfl ?_ ⟨rfl, hW.below⟩
                    rw [prog_no (.inr (.inr (.inl (by rw [← hg, hc9]; simp))))]; rfl
                · intro hc8
                  replace hc8 := of_decide_eq_false hc8
                  have e : x.1 = pn := by omega
                  rw [List.take_of_length_le (by omega)] at hm
                  rw [List.drop_eq_nil_iff.2 (by omega), fitsB] at hg
                  refine l_end ?_
                  refine n_then ?_
                  refine c_seq ?_
                  refine c_false rfl ?_
                  refine c_exit ?_
                  refine x_then ?_
                  refine x_then ?_
                  refine x_hit ?_
                  refine n_then ?_
                  refine c_seq ?_
                  refine c_seq ?_
                  refine c_reg ?_
                  refine l_loadC hW 0 tyC3 rfl rfl rfl rfl rfl rfl ?_
                  refine l_val (r_gtr rfl rfl rfl rfl) rfl rfl ?_
                  refine l_split ?_ ?_
                  · intro hc11
                    replace hc11 := of_decide_eq_true hc11
                    refine l_end ?_
                    refine n_then ?_
                    refine c_true rfl ?_
                    refine c_seq ?_
                    refine c_reg ?_
                    refine l_val (r_assign (v := .int _ _) rfl rfl) rfl rfl ?_
                    refine l_end ?_
                    refine n_then ?_
                    refine c_ret ?_
                    refine r_then ?_
                    refine ret_tmp (v := .int .i64 (chkH h)) rfl ?_ ⟨rfl, hW.below⟩
                    rw [prog_no (.inr (.inr (.inr (by omega))))]; rfl
                  · intro hc11
                    replace hc11 := of_decide_eq_false hc11
                    refine l_end ?_
                    refine n_then ?_
                    refine c_false rfl ?_
                    refine c_skip ?_
                    refine n_then ?_
                    refine c_seq ?_
                    refine c_reg ?_
                    refine l_val (r_assign (v := .int _ _) rfl rfl) rfl rfl ?_
                    refine l_end ?_
                    refine n_then ?_
                    refine c_ret ?_
                    refine ret_tmp (v := .int .i64 (chkH h)) rfl ?_ ⟨rfl, hW.below⟩
                    rw [prog_yes (by omega) hc6 hc7 hg.symm (by omega)]; rfl
              · intro hc7
                refine l_valG (r_not rfl rfl) (by kernel_rfl) rfl ?_
                refine l_val (r_pick (v := .bool _) rfl rfl rfl) rfl rfl ?_
                refine l_end ?_
                refine n_then ?_
                refine c_true rfl ?_
                refine c_seq ?_
                refine c_reg ?_
                refine l_val (r_assign (v := .int _ _) rfl rfl) rfl rfl ?_
                refine l_end ?_
                refine n_then ?_
                refine c_ret ?_
                refine r_then ?_
                refine ret_tmp (v := .int .i64 (chkH h)) rfl ?_ ⟨rfl, hW.below⟩
                rw [prog_no (.inr <| .inl <| hc7)]; rfl
            · intro hc6
              refine l_val (r_not rfl rfl) rfl rfl ?_
              refine l_val (r_move (v := .bool _) rfl rfl) rfl rfl ?_
              refine l_not (by kernel_rfl) rfl ?_
              refine l_not (by kernel_rfl) rfl ?_
              refine l_not (by kernel_rfl) rfl ?_
              refine l_not (by kernel_rfl) rfl ?_
              refine l_not (by kernel_rfl) rfl ?_
              refine l_val (r_pick (v := .bool _) rfl rfl rfl) rfl rfl ?_
              refine l_end ?_
              refine n_then ?_
              refine c_true rfl ?_
              refine c_seq ?_
              refine c_reg ?_
              refine l_val (r_assign (v := .int _ _) rfl rfl) rfl rfl ?_
              refine l_end ?_
              refine n_then ?_
              refine c_ret ?_
              refine r_then ?_
              refine ret_tmp (v := .int .i64 (chkH h)) rfl ?_ ⟨rfl, hW.below⟩
              rw [prog_no (.inl hc6)]; rfl

end Go.Proofs.Ytoegpalacppllaa

/- Variants, by the program. -/
namespace Go.Proofs.Ytoegpalacppllaa
open Go.RowKit Pl
open Tr Hn
set_option maxRecDepth 10000 in
/-- headend/trace.Variants -/
theorem g_Variants (h : Hu) (pa : Option Addr) (pn pc : Nat) (r q : Sl) (ss : List Sl) (hsm : Small h) (hfit : pn * 48 ≤ 140737488351232) : GivesX Try.prog 21 [.agg [.int .i64 h.users, .slice pa pn pc, .slice r.a r.n r.c, .slice q.a q.n q.c, .int .i64 h.rounds].toArray].toArray (fun w => RdHu w h ⟨pa, pn, pc⟩ r q ss) (fun v Bs => ∃ s : Sl, v = .tuple #[s.v, .int .i64 (chkH h)] ∧ NewI s (varsR h) Bs) := by
  refine givesX_of Try.func21 rfl (bs := [.agg [.int .i64 h.users, .slice pa pn pc, .slice r.a r.n r.c, .slice q.a q.n q.c, .int .i64 h.rounds].toArray, undef, undef, undef, undef, undef, undef, undef, undef, undef, undef, undef, undef, undef, undef, undef, undef, undef, undef, undef, undef, undef, undef, undef, undef, undef, undef, undef, undef, undef, undef, undef, undef, undef, undef, undef, undef, undef, undef, undef, undef, undef, undef, undef, undef, undef, undef, undef, undef, undef, undef, undef, undef, undef, undef, undef, undef, undef, undef, undef, undef, undef, undef, undef, undef, undef, undef, undef, undef, undef, undef]) rfl ?_
  intro w hP hW
  have hpn := hP.pn
  have hpl := hP.len
  simp only at hpn
  have hgl := hP.gl
  have hgs := hsm.sum
  have hone := hsm.one
  have hqn := hP.named.len
  have hql := hone h.named (by simp [groups])
  refine c_seq ?_
  refine c_reg ?_
  refine l_box hW rfl rfl rfl rfl ?_
  intro g1 W hW
  refine l_val (r_assign (v := .slice _ _ _) rfl rfl) rfl rfl ?_
  refine l_val (r_assign (v := .int _ _) rfl rfl) rfl rfl ?_
  refine l_end ?_
  refine n_then ?_
  refine c_seq ?_
  refine c_seq ?_
  refine c_reg ?_
  refine l_loadA hW 0 tyA52 rfl rfl rfl rfl rfl (by first | rfl | exact kc_len _ | exact kcf_len _ | (simp; done)) ?_
  refine l_callR hW (g_CheckHunt h pa pn pc r q ss hsm hfit) en27 (hP.past hW.below) rfl rfl rfl rfl ?_
  intro W hW
  refine l_val (r_assign (v := .int _ _) rfl rfl) rfl rfl ?_
  refine l_end ?_
  refine n_then ?_
  refine c_seq ?_
  refine c_reg ?_
  refine l_val (r_move (v := .int _ _) rfl rfl) rfl rfl ?_
  refine l_val (r_neq rfl rfl rfl rfl) rfl rfl ?_
  refine l_split ?_ ?_
  · intro hc1
    replace hc1 := of_decide_eq_true hc1
    refine l_end ?_
    refine n_then ?_
    refine c_true rfl ?_
    refine c_seq ?_
    refine c_reg ?_
    refine l_val (r_move (v := .int _ _) rfl rfl) rfl rfl ?_
    refine l_val (r_assign (v := .slice _ _ _) rfl rfl) rfl rfl ?_
    refine l_val (r_assign (v := .int _ _) rfl rfl) rfl rfl ?_
    refine l_end ?_
    refine n_then ?_
    refine c_ret ?_
    refine r_then ?_
    refine ret_tmp2 rfl rfl rfl ?_
    exact ⟨_, [], rfl, ⟨Sl.no, rfl, by rw [varsR_no (chk_not (by omega))]; exact NewI.no⟩, hW.sub (List.nil_sublist _)⟩
  · intro hc1
    replace hc1 := of_decide_eq_false hc1
    have hv := chk_valid (h := h) (by omega)
    obtain ⟨un, hun⟩ := Int.eq_ofNat_of_zero_le (a := h.users) (by have := hv.u1; omega)
    have hu1 := hv.u1
    have hu2 := hv.u2
    refine l_end ?_
    refine n_then ?_
    refine c_false rfl ?_
    refine c_skip ?_
    refine n_then ?_
    refine c_seq ?_
    refine c_reg ?_
    refine l_val (r_fieldAddr 0 Try.underlying52 rfl tyC3.size rfl rfl rfl) rfl rfl ?_
    refine l_loadC hW 0 tyC3 rfl rfl rfl rfl rfl rfl ?_
    refine l_makeSlice hW tyE35 (z := .int .i64 0) (v := .int .i64 0) (n := un) (k := un) tyZE35 rfl rfl rfl (congrArg (Value.int .i64) hun) (congrArg (Value.int .i64) hun) rfl (by omega) (by decide) (Nat.mul_one _) ?_
    intro gv W hW
    rw [arr_zero] at hW
    refine l_val (r_assign (v := .slice _ _ _) rfl rfl) rfl rfl ?_
    refine l_end ?_
    refine n_then ?_
    refine c_seq ?_
    refine c_seq ?_
    refine c_reg ?_
    refine l_val (r_fieldAddr 3 Try.underlying52 rfl tyC35.size rfl rfl rfl) rfl rfl ?_
    refine l_loadC hW 1 tyC35 rfl rfl rfl rfl rfl rfl ?_
    refine l_val (r_lenSlice Try.underlying35 rfl rfl) rfl rfl ?_
    refine l_val (r_move (v := .int _ _) rfl rfl) rfl rfl ?_
    refine l_end ?_
    refine n_then ?_
    refine c_block ?_
    refine c_loop (fun (k : Nat) (j : Nat → Value) => [.agg [.int .i64 h.users, .slice pa pn pc, .slice r.a r.n r.c, .slice q.a q.n q.c, .int .i64 h.rounds].toArray, .pointer (some ⟨g1, 0, none⟩), j 2, .int .i64 0, .int .i64 (chkH h), .slice (some ⟨gv, 0, none⟩) un un, j 6, j 7, j 8, j 9, j 10, j 11, j 12, j 13, .agg ([.int .i64 h.users, .slice pa pn pc, .slice r.a r.n r.c, .slice q.a q.n q.c, .int .i64 h.rounds]).toArray, .int .i64 (chkH h), .int .i64 (chkH h), .bool false, j 18, .pointer (some ⟨g1, 0, none⟩), .int .i64 h.users, .slice (some ⟨gv, 0, none⟩) un un, .pointer (some ⟨g1, 3, none⟩), .slice q.a q.n q.c, .int .i64 (q.n : Int), .int .i64 (k : Int), j 26, j 27, j 28, j 29, j 30, j 31, j 32, j 33, j 34, j 35, j 36, j 37, j 38, j 39, j 40, j 41, j 42, j 43, j 44, j 45, j 46, j 47, j 48, j 49, j 50, j 51, j 52, j 53, j 54, j 55, j 56, j 57, j 58, j 59, j 60, j 61, j 62, j 63, j 64, j 65, j 66, j 67, j 68, j 69, j 70]) (fun (k : Nat) => [⟨gv, arr (put h.named (-1) (fun _ => 0) k) un, 3⟩, ⟨g1, [.int .i64 h.users, .slice pa pn pc, .slice r.a r.n r.c, .slice q.a q.n q.c, .int .i64 h.rounds], 52⟩]) (fun (k : Nat) => k ≤ q.n) (fun (k : Nat) => q.n - k) 0 (by kernel_rfl) (by rw [put_zero]; exact hW) (Nat.zero_le _) ?_
    intro k j W hx hW
    refine c_seq ?_
    refine c_reg ?_
    refine l_val (r_lssN rfl rfl rfl rfl) rfl rfl ?_
    refine l_split ?_ ?_
    · intro hc2
      replace hc2 := of_decide_eq_true hc2
      obtain ⟨b0, o0, ha, hd⟩ := hP.named.ptr (by omega)
      have hb := users_mem hv.named (at_mem (l := h.named) (i := k) (by omega))
      refine l_end ?_
      refine n_then ?_
      refine c_seq ?_
      refine c_true rfl ?_
      refine c_skip ?_
      refine n_then ?_
      refine c_seq ?_
      refine c_block ?_
      refine c_seq ?_
      refine c_reg ?_
      refine l_val (r_indexAddrSl2 (n := k) Try.underlying35 tyC3.size rfl (congrArg (fun a => Value.slice a q.n q.c) ha) rfl (by omega)) rfl rfl ?_
      refine l_loadF hW tyC3 (v := .int .i64 (at_ h.named (k))) (hd (k) (by omega)) rfl rfl rfl rfl ?_
      refine l_val (r_assign (v := .int _ _) rfl rfl) rfl rfl ?_
      refine l_end ?_
      refine n_then ?_
      refine c_reg ?_
      refine l_val (r_move (v := .slice _ _ _) rfl rfl) rfl rfl ?_
      refine l_val (r_move (v := .int _ _) rfl rfl) rfl rfl ?_
      refine l_val (r_indexAddrSlZ Try.underlying35 tyC3.size rfl rfl rfl (by omega) (by omega)) rfl rfl ?_
      refine l_storeC hW 0 tyC3 (v := .int _ _) rfl rfl rfl rfl rfl rfl (by rw [arr_len]; omega) rfl ?_
      intro W hW
      refine l_end ?_
      refine n_block ?_
      refine n_then ?_
      refine c_reg ?_
      refine l_val (r_addN (n := 1) rfl rfl rfl (by omega)) rfl rfl ?_
      refine l_val (r_move (v := .int _ _) rfl rfl) rfl rfl ?_
      refine l_end ?_
      refine n_then ?_
      exact loop_next (k + 1) (by kernel_rfl) (by rw [arr_put (by omega) (by omega) (by omega)]; exact hW) (by omega) (by omega)
    · intro hc2
      replace hc2 := of_decide_eq_false hc2
      rw [put_named (by omega)] at hW
      refine l_end ?_
      refine n_then ?_
      refine c_seq ?_
      refine c_false rfl ?_
      refine c_exit ?_
      refine x_then ?_
      refine x_then ?_
      refine x_hit ?_
      refine n_then ?_
      refine c_seq ?_
      refine c_seq ?_
      refine c_reg ?_
      refine l_val (r_fieldAddr 1 Try.underlying52 rfl tyC50.size rfl rfl rfl) rfl rfl ?_
      refine l_loadC hW 1 tyC50 rfl rfl rfl rfl rfl rfl ?_
      refine l_val (r_lenSlice Try.underlying50 rfl rfl) rfl rfl ?_
      refine l_val (r_move (v := .int _ _) rfl rfl) rfl rfl ?_
      refine l_end ?_
      refine n_then ?_
      refine c_block ?_
      refine c_loop (fun (i : Nat) (j : Nat → Value) => [.agg [.int .i64 h.users, .slice pa pn pc, .slice r.a r.n r.c, .slice q.a q.n q.c, .int .i64 h.rounds].toArray, .pointer (some ⟨g1, 0, none⟩), j 2, .int .i64 0, .int .i64 (chkH h), .slice (some ⟨gv, 0, none⟩) un un, j 6, j 7, j 8, j 9, j 10, j 11, j 12, j 13, .agg ([.int .i64 h.users, .slice pa pn pc, .slice r.a r.n r.c, .slice q.a q.n q.c, .int .i64 h.rounds]).toArray, .int .i64 (chkH h), .int .i64 (chkH h), .bool false, j 18, .pointer (some ⟨g1, 0, none⟩), .int .i64 h.users, .slice (some ⟨gv, 0, none⟩) un un, .pointer (some ⟨g1, 3, none⟩), .slice q.a q.n q.c, .int .i64 (q.n : Int), j 25, .bool false, j 27, j 28, j 29, j 30, j 31, j 32, .pointer (some ⟨g1, 1, none⟩), .slice pa pn pc, .int .i64 (pn : Int), .int .i64 (i : Int), j 37, j 38, j 39, j 40, j 41, j 42, j 43, j 44, j 45, j 46, j 47, j 48, j 49, j 50, j 51, j 52, j 53, j 54, j 55, j 56, j 57, j 58, j 59, j 60, j 61, j 62, j 63, j 64, j 65, j 66, j 67, j 68, j 69, j 70]) (fun (i : Nat) => [⟨gv, arr (fun u => varP h u (2 * i)) un, 3⟩, ⟨g1, [.int .i64 h.users, .slice pa pn pc, .slice r.a r.n r.c, .slice q.a q.n q.c, .int .i64 h.rounds], 52⟩]) (fun (i : Nat) => i ≤ pn) (fun (i : Nat) => pn - i) 0 (by kernel_rfl) hW (Nat.zero_le _) ?_
      intro i j W hx hW
      refine c_seq ?_
      refine c_reg ?_
      refine l_val (r_lssN rfl rfl rfl rfl) rfl rfl ?_
      refine l_split ?_ ?_
      · intro hc3
        replace hc3 := of_decide_eq_true hc3
        obtain ⟨b0, o0, ha⟩ := hP.ptr (by omega)
        have hP2 := hP
        rw [ha] at hP2
        obtain ⟨s0, s1, l0, l1, e0, e1, f0, f1, c0, c1, hr0, hr1⟩ := hP2.side2 (i := i) (by omega)
        have hs0 := hr0.len
        have hs1 := hr1.len
        have hy0 := hone l0 (List.mem_of_getElem? (i := 2 * i + 2) f0)
        have hy1 := hone l1 (List.mem_of_getElem? (i := 2 * i + 3) f1)
        refine l_end ?_
        refine n_then ?_
        refine c_seq ?_
        refine c_true rfl ?_
        refine c_skip ?_
        refine n_then ?_
        refine c_seq ?_
        refine c_block ?_
        refine c_seq ?_
        refine c_reg ?_
        refine l_val (r_move (v := .int _ _) rfl rfl) rfl rfl ?_
        refine l_val (r_indexAddrSl (n := i) Try.underlying50 tyA99.size rfl (congrArg (fun a => Value.slice a pn pc) ha) rfl (by omega)) rfl rfl ?_
        refine l_loadFs hW tyA99 (vs := [s0.v, s1.v]) (two_cells c0 c1) rfl rfl rfl rfl rfl ?_
        refine l_alloc hW tyZ99 rfl rfl rfl ?_
        intro g2 W hW
        refine l_val (r_assign (v := .int _ _) rfl rfl) rfl rfl ?_
        refine l_storeA hW 0 tyA99 rfl rfl rfl rfl rfl rfl (by first | rfl | exact kc_len _ | exact kcf_len _ | (simp; done)) (by first | rfl | exact kc_len _ | exact kcf_len _ | (simp; done)) (by first | exact kc_one _ | exact kcf_one _ | (simp [Value.oneCell']; done)) ?_
        intro W hW
        refine l_end ?_
        refine n_then ?_
        refine c_seq ?_
        refine c_seq ?_
        refine c_reg ?_
        refine l_val (r_fieldAddr 0 Try.underlying99 rfl tyC35.size rfl rfl rfl) rfl rfl ?_
        refine l_loadC hW 0 tyC35 rfl rfl rfl rfl rfl rfl ?_
        refine l_val (r_lenSlice Try.underlying35 rfl rfl) rfl rfl ?_
        refine l_val (r_move (v := .int _ _) rfl rfl) rfl rfl ?_
        refine l_end ?_
        refine n_then ?_
        refine c_block ?_
        refine c_loop (fun (y : Nat) (j : Nat → Value) => [.agg [.int .i64 h.users, .slice pa pn pc, .slice r.a r.n r.c, .slice q.a q.n q.c, .int .i64 h.rounds].toArray, .pointer (some ⟨g1, 0, none⟩), j 2, .int .i64 0, .int .i64 (chkH h), .slice (some ⟨gv, 0, none⟩) un un, j 6, j 7, .int .i64 (i : Int), .pointer (some ⟨g2, 0, none⟩), j 10, j 11, j 12, j 13, .agg ([.int .i64 h.users, .slice pa pn pc, .slice r.a r.n r.c, .slice q.a q.n q.c, .int .i64 h.rounds]).toArray, .int .i64 (chkH h), .int .i64 (chkH h), .bool false, j 18, .pointer (some ⟨g1, 0, none⟩), .int .i64 h.users, .slice (some ⟨gv, 0, none⟩) un un, .pointer (some ⟨g1, 3, none⟩), .slice q.a q.n q.c, .int .i64 (q.n : Int), j 25, .bool false, j 27, j 28, j 29, j 30, j 31, j 32, .pointer (some ⟨g1, 1, none⟩), .slice pa pn pc, .int .i64 (pn : Int), .int .i64 (i : Int), .bool true, .int .i64 (i : Int), j 39, .agg ([.slice s0.a s0.n s0.c, .slice s1.a s1.n s1.c]).toArray, .pointer (some ⟨g2, 0, none⟩), .slice s0.a s0.n s0.c, .int .i64 (s0.n : Int), .int .i64 (y : Int), j 45, j 46, j 47, j 48, j 49, j 50, j 51, j 52, j 53, j 54, j 55, j 56, j 57, j 58, j 59, j 60, j 61, j 62, j 63, j 64, j 65, j 66, j 67, j 68, j 69, j 70]) (fun (y : Nat) => [⟨g2, [.slice s0.a s0.n s0.c, .slice s1.a s1.n s1.c], 99⟩, ⟨gv, arr (put l0 ((2 * i + 1 : Nat) : Int) (fun u => varP h u (2 * i)) y) un, 3⟩, ⟨g1, [.int .i64 h.users, .slice pa pn pc, .slice r.a r.n r.c, .slice q.a q.n q.c, .int .i64 h.rounds], 52⟩]) (fun (y : Nat) => y ≤ s0.n) (fun (y : Nat) => s0.n - y) 0 (by kernel_rfl) (by rw [put_zero]; exact hW) (Nat.zero_le _) ?_
        intro y j W hx hW
        refine c_seq ?_
        refine c_reg ?_
        refine l_val (r_lssN rfl rfl rfl rfl) rfl rfl ?_
        refine l_split ?_ ?_
        · intro hc4
          replace hc4 := of_decide_eq_true hc4
          obtain ⟨b1, o1, ha1, hd⟩ := hr0.ptr (by omega)
          have hb := users_mem (hv.ps l0 (List.mem_of_getElem? f0)).1 (at_mem (l := l0) (i := y) (by omega))
          refine l_end ?_
          refine n_then ?_
          refine c_seq ?_
          refine c_true rfl ?_
          refine c_skip ?_
          refine n_then ?_
          refine c_seq ?_
          refine c_block ?_
          refine c_seq ?_
          refine c_reg ?_
          refine l_val (r_indexAddrSl2 (n := y) Try.underlying35 tyC3.size rfl (congrArg (fun a => Value.slice a s0.n s0.c) ha1) rfl (by omega)) rfl rfl ?_
          refine l_loadF hW tyC3 (v := .int .i64 (at_ l0 (y))) (hd (y) (by omega)) rfl rfl rfl rfl ?_
          refine l_val (r_assign (v := .int _ _) rfl rfl) rfl rfl ?_
          refine l_end ?_
          refine n_then ?_
          refine c_reg ?_
          refine l_val (r_move (v := .slice _ _ _) rfl rfl) rfl rfl ?_
          refine l_val (r_move (v := .int _ _) rfl rfl) rfl rfl ?_
          refine l_val (r_move (v := .int _ _) rfl rfl) rfl rfl ?_
          refine l_val (r_mulN (m := 2) rfl rfl rfl (by omega)) rfl rfl ?_
          refine l_val (r_addN (n := 1) rfl rfl rfl (by omega)) rfl rfl ?_
          refine l_val (r_indexAddrSlZ Try.underlying35 tyC3.size rfl rfl rfl (by omega) (by omega)) rfl rfl ?_
          refine l_storeC hW 1 tyC3 (v := .int _ _) rfl rfl rfl rfl rfl rfl (by rw [arr_len]; omega) rfl ?_
          intro W hW
          refine l_end ?_
          refine n_block ?_
          refine n_then ?_
          refine c_reg ?_
          refine l_val (r_addN (n := 1) rfl rfl rfl (by omega)) rfl rfl ?_
          refine l_val (r_move (v := .int _ _) rfl rfl) rfl rfl ?_
          refine l_end ?_
          refine n_then ?_
          exact loop_next (y + 1) (by kernel_rfl) (by rw [arr_put (by omega) (by omega) (by omega)]; exact hW) (by omega) (by omega)
        · intro hc4
          replace hc4 := of_decide_eq_false hc4
          rw [put_side f0 (by omega) (by omega)] at hW
          refine l_end ?_
          refine n_then ?_
          refine c_seq ?_
          refine c_false rfl ?_
          refine c_exit ?_
          refine x_then ?_
          refine x_then ?_
          refine x_hit ?_
          refine n_then ?_
          refine c_seq ?_
          refine c_reg ?_
          refine l_val (r_fieldAddr 1 Try.underlying99 rfl tyC35.size rfl rfl rfl) rfl rfl ?_
          refine l_loadC hW 0 tyC35 rfl rfl rfl rfl rfl rfl ?_
          refine l_val (r_lenSlice Try.underlying35 rfl rfl) rfl rfl ?_
          refine l_val (r_move (v := .int _ _) rfl rfl) rfl rfl ?_
          refine l_end ?_
          refine n_then ?_
          refine c_block ?_
          refine c_loop (fun (z : Nat) (j : Nat → Value) => [.agg [.int .i64 h.users, .slice pa pn pc, .slice r.a r.n r.c, .slice q.a q.n q.c, .int .i64 h.rounds].toArray, .pointer (some ⟨g1, 0, none⟩), j 2, .int .i64 0, .int .i64 (chkH h), .slice (some ⟨gv, 0, none⟩) un un, j 6, j 7, .int .i64 (i : Int), .pointer (some ⟨g2, 0, none⟩), j 10, j 11, j 12, j 13, .agg ([.int .i64 h.users, .slice pa pn pc, .slice r.a r.n r.c, .slice q.a q.n q.c, .int .i64 h.rounds]).toArray, .int .i64 (chkH h), .int .i64 (chkH h), .bool false, j 18, .pointer (some ⟨g1, 0, none⟩), .int .i64 h.users, .slice (some ⟨gv, 0, none⟩) un un, .pointer (some ⟨g1, 3, none⟩), .slice q.a q.n q.c, .int .i64 (q.n : Int), j 25, .bool false, j 27, j 28, j 29, j 30, j 31, j 32, .pointer (some ⟨g1, 1, none⟩), .slice pa pn pc, .int .i64 (pn : Int), .int .i64 (i : Int), .bool true, .int .i64 (i : Int), j 39, .agg ([.slice s0.a s0.n s0.c, .slice s1.a s1.n s1.c]).toArray, .pointer (some ⟨g2, 0, none⟩), .slice s0.a s0.n s0.c, .int .i64 (s0.n : Int), j 44, .bool false, j 46, j 47, j 48, j 49, j 50, j 51, j 52, j 53, j 54, .pointer (some ⟨g2, 1, none⟩), .slice s1.a s1.n s1.c, .int .i64 (s1.n : Int), .int .i64 (z : Int), j 59, j 60, j 61, j 62, j 63, j 64, j 65, j 66, j 67, j 68, j 69, j 70]) (fun (z : Nat) => [⟨g2, [.slice s0.a s0.n s0.c, .slice s1.a s1.n s1.c], 99⟩, ⟨gv, arr (put l1 ((2 * i + 2 : Nat) : Int) (fun u => varP h u (2 * i + 1)) z) un, 3⟩, ⟨g1, [.int .i64 h.users, .slice pa pn pc, .slice r.a r.n r.c, .slice q.a q.n q.c, .int .i64 h.rounds], 52⟩]) (fun (z : Nat) => z ≤ s1.n) (fun (z : Nat) => s1.n - z) 0 (by kernel_rfl) (by rw [put_zero]; exact hW) (Nat.zero_le _) ?_
          intro z j W hx hW
          refine c_seq ?_
          refine c_reg ?_
          refine l_val (r_lssN rfl rfl rfl rfl) rfl rfl ?_
          refine l_split ?_ ?_
          · intro hc5
            replace hc5 := of_decide_eq_true hc5
            obtain ⟨b1, o1, ha1, hd⟩ := hr1.ptr (by omega)
            have hb := users_mem (hv.ps l1 (List.mem_of_getElem? f1)).1 (at_mem (l := l1) (i := z) (by omega))
            refine l_end ?_
            refine n_then ?_
            refine c_seq ?_
            refine c_true rfl ?_
            refine c_skip ?_
            refine n_then ?_
            refine c_seq ?_
            refine c_block ?_
            refine c_seq ?_
            refine c_reg ?_
            refine l_val (r_indexAddrSl2 (n := z) Try.underlying35 tyC3.size rfl (congrArg (fun a => Value.slice a s1.n s1.c) ha1) rfl (by omega)) rfl rfl ?_
            refine l_loadF hW tyC3 (v := .int .i64 (at_ l1 (z))) (hd (z) (by omega)) rfl rfl rfl rfl ?_
            refine l_val (r_assign (v := .int _ _) rfl rfl) rfl rfl ?_
            refine l_end ?_
            refine n_then ?_
            refine c_reg ?_
            refine l_val (r_move (v := .slice _ _ _) rfl rfl) rfl rfl ?_
            refine l_val (r_move (v := .int _ _) rfl rfl) rfl rfl ?_
            refine l_val (r_move (v := .int _ _) rfl rfl) rfl rfl ?_
            refine l_val (r_mulN (m := 2) rfl rfl rfl (by omega)) rfl rfl ?_
            refine l_val (r_addN (n := 2) rfl rfl rfl (by omega)) rfl rfl ?_
            refine l_val (r_indexAddrSlZ Try.underlying35 tyC3.size rfl rfl rfl (by omega) (by omega)) rfl rfl ?_
            refine l_storeC hW 1 tyC3 (v := .int _ _) rfl rfl rfl rfl rfl rfl (by rw [arr_len]; omega) rfl ?_
            intro W hW
            refine l_end ?_
            refine n_block ?_
            refine n_then ?_
            refine c_reg ?_
            refine l_val (r_addN (n := 1) rfl rfl rfl (by omega)) rfl rfl ?_
            refine l_val (r_move (v := .int _ _) rfl rfl) rfl rfl ?_
            refine l_end ?_
            refine n_then ?_
            exact loop_next (z + 1) (by kernel_rfl) (by rw [arr_put (by omega) (by omega) (by omega)]; exact hW) (by omega) (by omega)
          · intro hc5
            replace hc5 := of_decide_eq_false hc5
            rw [put_side f1 (by omega) (by omega), show 2 * i + 1 + 1 = 2 * (i + 1) by omega] at hW
            refine l_end ?_
            refine n_then ?_
            refine c_seq ?_
            refine c_false rfl ?_
            refine c_exit ?_
            refine x_then ?_
            refine x_then ?_
            refine x_hit ?_
            refine n_block ?_
            refine n_then ?_
            refine c_reg ?_
            refine l_val (r_addN (n := 1) rfl rfl rfl (by omega)) rfl rfl ?_
            refine l_val (r_move (v := .int _ _) rfl rfl) rfl rfl ?_
            refine l_end ?_
            refine n_then ?_
            exact loop_next (i + 1) (by kernel_rfl) (hW.drop 1) (by omega) (by omega)
      · intro hc3
        replace hc3 := of_decide_eq_false hc3
        rw [show 2 * i = h.ps.length by omega, arr_vars hv hun] at hW
        refine l_end ?_
        refine n_then ?_
        refine c_seq ?_
        refine c_false rfl ?_
        refine c_exit ?_
        refine x_then ?_
        refine x_then ?_
        refine x_hit ?_
        refine n_then ?_
        refine c_seq ?_
        refine c_reg ?_
        refine l_val (r_move (v := .slice _ _ _) rfl rfl) rfl rfl ?_
        refine l_val (r_assign (v := .slice _ _ _) rfl rfl) rfl rfl ?_
        refine l_val (r_assign (v := .int _ _) rfl rfl) rfl rfl ?_
        refine l_end ?_
        refine n_then ?_
        refine c_ret ?_
        refine ret_tmp2 rfl rfl rfl ?_
        have e0 : chkH h = 0 := by omega
        exact ⟨_, [⟨gv, il (variants h), 3⟩], rfl, ⟨⟨some ⟨gv, 0, none⟩, un, un⟩, by rw [e0]; rfl, by rw [varsR_yes ((valid_iff h).2 hv)]; exact (OwnSl.full (by rw [il_len, vars_len]; omega) (by unfold maxLen; omega)).newI⟩, hW.sub (.cons_cons _ (List.nil_sublist _))⟩

end Go.Proofs.Ytoegpalacppllaa

/- A hunt that has heard of a side, by the reference. -/
namespace Go.Proofs.Ytoegpalacppllaa
open Go.RowKit Pl
open Tr Hn
set_option maxRecDepth 10000 in
/-- headend/headendref08.heard -/
theorem g_heard (h : Hu) (pn pc gr : Nat) (cur : List Value) (r q : Sl) (ss : List Sl) (M : List Blk) (i : Nat) (aa : Option Addr) (an ac : Nat) (l : List Int) (ba : Option Addr) (bn bc : Nat) (m : List Int) (hO : OwnHu 99 h ⟨some ⟨gr, 0, none⟩, pn, pc⟩ r q ss [⟨gr, cur, 99⟩] M) (hi : i < pn) (hl : NewI ⟨aa, an, ac⟩ l M) (hm : NewI ⟨ba, bn, bc⟩ m M) (hne : l ≠ []) (hpn : pn ≤ 128) (hl1 : h.rest.length ≤ 4294967296) (hl2 : h.named.length ≤ 4294967296) (hl3 : l.length ≤ 4294967296) (hl4 : m.length ≤ 4294967296) : GivesS Try.prog 52 [.agg [.int .i64 h.users, .slice (some ⟨gr, 0, none⟩) pn pc, .slice r.a r.n r.c, .slice q.a q.n q.c, .int .i64 h.rounds].toArray, .int .i64 (i : Int), .slice aa an ac, .slice ba bn bc].toArray (fun _ L => List.Sublist M L) [⟨gr, cur, 99⟩] (fun v B => ∃ p2 r2 q2 ss2 Rb N, v = .agg (huC (heardAt h i l m) p2 r2 q2).toArray ∧ OwnHu 99 (heardAt h i l m) p2 r2 q2 ss2 Rb (N ++ M) ∧ B = N ++ Rb) := by
  refine givesS_of Try.func52 rfl (bs := [.agg [.int .i64 h.users, .slice (some ⟨gr, 0, none⟩) pn pc, .slice r.a r.n r.c, .slice q.a q.n q.c, .int .i64 h.rounds].toArray, .int .i64 (i : Int), .slice aa an ac, .slice ba bn bc, undef, undef, undef, undef, undef, undef, undef, undef, undef, undef, undef, undef, undef, undef, undef, undef, undef, undef, undef, undef, undef, undef, undef, undef, undef, undef, undef, undef, undef, undef, undef, undef, undef, undef, undef, undef, undef, undef, undef, undef, undef, undef, undef, undef, undef, undef, undef, undef]) rfl ?_
  intro b L w hP hW
  have hn : an = l.length := hl.n
  have hpos := List.length_pos_iff.2 hne
  have hsl : ss.length = pn * 2 := by have := hO.row.1; rw [List.length_map] at this; exact this
  refine c_seq ?_
  refine c_reg ?_
  refine l_box hW rfl rfl rfl rfl ?_
  intro g1 W hW
  refine l_alloc hW tyZ52 rfl rfl rfl ?_
  intro g2 W hW
  refine l_end ?_
  refine n_then ?_
  refine c_seq ?_
  refine c_reg ?_
  refine l_val (r_fieldAddr 2 Try.underlying52 rfl tyC35.size rfl rfl rfl) rfl rfl ?_
  refine l_loadC hW 1 tyC35 rfl rfl rfl rfl rfl rfl ?_
  refine l_val (r_move (v := .slice _ _ _) rfl rfl) rfl rfl ?_
  refine l_callX hW (g_rmerged r.a r.n r.c h.rest ba bn bc m (by omega) (by omega)) en53 ⟨hO.rest.rep.at hW (hP.trans (List.sublist_append_right [_, _, _] L)), hm.rep.at hW (hP.trans (List.sublist_append_right [_, _, _] L))⟩ rfl rfl rfl rfl ?_
  rintro _ Bs1 W ⟨r2, rfl, hr2⟩ hW
  refine l_val (r_fieldAddr 2 Try.underlying52 rfl tyC35.size rfl rfl rfl) rfl rfl ?_
  refine l_storeC hW 1 tyC35 (v := .slice _ _ _) rfl rfl rfl rfl rfl rfl (by first | rfl | omega | (simp; done) | (simp; omega)) rfl ?_
  intro W hW
  refine l_end ?_
  refine n_then ?_
  refine c_seq ?_
  refine c_seq ?_
  refine c_reg ?_
  refine l_val (r_move (v := .slice _ _ _) rfl rfl) rfl rfl ?_
  refine l_val (r_lenSlice Try.underlying35 rfl rfl) rfl rfl ?_
  refine l_val (r_gtrN (n := 1) rfl rfl rfl rfl) rfl rfl ?_
  refine l_split ?_ ?_
  · intro hc1
    replace hc1 := of_decide_eq_true hc1
    refine l_end ?_
    refine n_then ?_
    refine c_true rfl ?_
    refine c_seq ?_
    refine c_regM hW [] [.q, .q, .q, .q, .mk 0, .q, .tail] [⟨23, fun _ v Bs => ∃ s0 s1 : Sl, v = .agg [s0.v, s1.v].toArray ∧ NewI s0 (l.take (halfN l)) Bs ∧ NewI s1 (l.drop (halfN l)) Bs⟩] [[]] [4] [0, 1, 0, 0, 8, 31, 63] (by kernel_rfl) (by kernel_rfl) rfl (by kernel_rfl) ?_
    refine y_val (r_fieldAddr 1 Try.underlying52 rfl tyC50.size rfl rfl rfl) rfl rfl ?_
    refine y_loadC 1 tyC50 rfl rfl rfl rfl rfl rfl (by decide) ?_
    refine y_val (r_move (v := .int _ _) rfl rfl) rfl rfl ?_
    refine y_val (r_move (v := .slice _ _ _) rfl rfl) rfl rfl ?_
    refine y_callX 0 (g_rhalves aa an ac l (by omega)) en54 rfl rfl (fun L2 w hs hC => hl.rep.at hC (((hP.trans (List.sublist_append_right [_, _, _] L)).trans (List.sublist_append_left _ _)).trans hs.pre)) rfl rfl ?_
    refine y_val (r_indexAddrSl (n := i) Try.underlying50 tyA99.size rfl rfl rfl (by omega)) rfl rfl ?_
    refine y_tail ?_
    refine y_made ?_
    rintro _ Bs2 ⟨t0, t1, rfl, ht0, ht1⟩
    intro W hW
    replace hW := hW.perm List.perm_append_comm
    refine l_storeP hW 2 tyA99 (i := 0 + i * 2) (vs := [t0.v, t1.v]) rfl rfl rfl rfl rfl rfl (by have := (hO.row.pair hi).choose_spec.choose_spec.2.2.2; omega) rfl (by simp [Sl.v, Value.oneCell']) ?_
    intro W hW
    rw [Nat.zero_add] at hW
    refine l_end ?_
    refine n_then ?_
    refine c_seq ?_
    refine c_reg ?_
    refine l_loadA hW 1 tyA52 rfl rfl rfl rfl rfl (by first | rfl | exact kc_len _ | exact kcf_len _ | (simp; done)) ?_
    refine l_storeA hW 0 tyA52 rfl rfl rfl rfl rfl rfl (by first | rfl | exact kc_len _ | exact kcf_len _ | (simp; done)) (by first | rfl | exact kc_len _ | exact kcf_len _ | (simp; done)) (by first | exact kc_one _ | exact kcf_one _ | (simp [Value.oneCell']; done)) ?_
    intro W hW
    refine l_end ?_
    refine n_then ?_
    refine c_ret ?_
    refine r_then ?_
    refine ret_cell hW 0 tyA52 rfl rfl rfl (by first | rfl | exact kc_len _ | exact kcf_len _ | (simp; done)) ?_
    have hps : (heardAt h i l m).ps = (h.ps.set (i * 2) (l.take (halfN l))).set (i * 2 + 1) (l.drop (halfN l)) := if_pos (by omega)
    have hnm : (heardAt h i l m).named = h.named := if_pos (by omega)
    have hW3 : Cl b (([⟨gr, cur.take (i * 2) ++ [t0.v, t1.v] ++ cur.drop (i * 2 + 2), 99⟩] ++ L) ++ (Bs1 ++ Bs2)) W := by rw [← List.append_assoc]; exact hW.drop 2
    exact ⟨_, (Bs1 ++ Bs2) ++ [⟨gr, cur.take (i * 2) ++ [t0.v, t1.v] ++ cur.drop (i * 2 + 2), 99⟩], rfl, ⟨⟨some ⟨gr, 0, none⟩, pn, pc⟩, r2, q, _, [⟨gr, cur.take (i * 2) ++ [t0.v, t1.v] ++ cur.drop (i * 2 + 2), 99⟩], Bs1 ++ Bs2, rfl, ⟨hO.row.two hi, by rw [hps]; simpa using hO.len, by rw [hps]; exact (hO.ps.sub (List.sublist_append_right _ _)).two_set hO.len (ht0.sub ((List.sublist_append_right Bs1 Bs2).trans (List.sublist_append_left _ _))) (ht1.sub ((List.sublist_append_right Bs1 Bs2).trans (List.sublist_append_left _ _))), hr2.sub ((List.sublist_append_left _ _).trans (List.sublist_append_left _ _)), by rw [hnm]; exact hO.named.sub (List.sublist_append_right _ _)⟩, rfl⟩, hW3.perm perm5⟩
  · intro hc1
    replace hc1 := of_decide_eq_false hc1
    refine l_end ?_
    refine n_then ?_
    refine c_false rfl ?_
    refine c_skip ?_
    refine n_then ?_
    refine c_seq ?_
    refine c_reg ?_
    refine l_val (r_fieldAddr 3 Try.underlying52 rfl tyC35.size rfl rfl rfl) rfl rfl ?_
    refine l_loadC hW 1 tyC35 rfl rfl rfl rfl rfl rfl ?_
    refine l_val (r_move (v := .slice _ _ _) rfl rfl) rfl rfl ?_
    refine l_callX hW (g_rmerged q.a q.n q.c h.named aa an ac l (by omega) (by omega)) en53 ⟨hO.named.rep.at hW ((hP.trans (List.sublist_append_right [_, _, _] L)).trans (List.sublist_append_left _ _)), hl.rep.at hW ((hP.trans (List.sublist_append_right [_, _, _] L)).trans (List.sublist_append_left _ _))⟩ rfl rfl rfl rfl ?_
    rintro _ Bs2 W ⟨q2, rfl, hq2⟩ hW
    refine l_val (r_fieldAddr 3 Try.underlying52 rfl tyC35.size rfl rfl rfl) rfl rfl ?_
    refine l_storeC hW 1 tyC35 (v := .slice _ _ _) rfl rfl rfl rfl rfl rfl (by first | rfl | omega | (simp; done) | (simp; omega)) rfl ?_
    intro W hW
    refine l_end ?_
    refine n_then ?_
    refine c_seq ?_
    refine c_reg ?_
    refine l_val (r_assign (v := .slice _ _ _) rfl rfl) rfl rfl ?_
    refine l_end ?_
    refine n_then ?_
    refine c_seq ?_
    refine c_seq ?_
    refine c_reg ?_
    refine l_val (r_assign (v := .int _ _) rfl rfl) rfl rfl ?_
    refine l_end ?_
    refine n_then ?_
    refine c_block ?_
    refine c_loop (fun (x : Nat × Nat × Option Addr × Nat × List Blk) (j : Nat → Value) => [.agg [.int .i64 h.users, .slice (some ⟨gr, 0, none⟩) pn pc, .slice r.a r.n r.c, .slice q.a q.n q.c, .int .i64 h.rounds].toArray, .int .i64 (i : Int), .slice aa an ac, .slice ba bn bc, .pointer (some ⟨g1, 0, none⟩), j 5, j 6, j 7, .pointer (some ⟨g2, 0, none⟩), .slice x.2.2.1 x.2.1 x.2.2.2.1, .int .i64 (x.1 : Int), .pointer (some ⟨g1, 2, none⟩), .slice r.a r.n r.c, .slice ba bn bc, .slice r2.a r2.n r2.c, .pointer (some ⟨g1, 2, none⟩), .slice aa an ac, j 17, .bool false, j 19, j 20, j 21, j 22, j 23, j 24, j 25, .pointer (some ⟨g1, 3, none⟩), .slice q.a q.n q.c, .slice aa an ac, .slice q2.a q2.n q2.c, .pointer (some ⟨g1, 3, none⟩), j 31, j 32, j 33, j 34, j 35, j 36, j 37, j 38, j 39, j 40, j 41, j 42, j 43, j 44, j 45, j 46, j 47, j 48, j 49, j 50, j 51]) (fun (x : Nat × Nat × Option Addr × Nat × List Blk) => [⟨g2, z52, 52⟩, ⟨g1, [.int .i64 h.users, .slice (some ⟨gr, 0, none⟩) pn pc, .slice r2.a r2.n r2.c, .slice q2.a q2.n q2.c, .int .i64 h.rounds], 52⟩, ⟨gr, cur, 99⟩] ++ L ++ Bs1 ++ Bs2 ++ x.2.2.2.2) (fun (x : Nat × Nat × Option Addr × Nat × List Blk) => x.1 ≤ pn ∧ x.2.1 ≤ x.1 ∧ OwnSl 99 2 x.2.2.1 x.2.1 x.2.2.2.1 ((sk ss i x.1).map Sl.v) x.2.2.2.2) (fun (x : Nat × Nat × Option Addr × Nat × List Blk) => pn - x.1) (0, 0, none, 0, []) (by kernel_rfl) (by rw [List.append_nil]; exact hW) ⟨Nat.zero_le _, Nat.zero_le _, by rw [sk_zero]; exact OwnSl.nil 99 2⟩ ?_
    intro x j W hx hW
    obtain ⟨hx, hk, hR⟩ := hx
    refine c_seq ?_
    refine c_seq ?_
    refine c_reg ?_
    refine l_val (r_move (v := .int _ _) rfl rfl) rfl rfl ?_
    refine l_val (r_fieldAddr 1 Try.underlying52 rfl tyC50.size rfl rfl rfl) rfl rfl ?_
    refine l_loadC hW 1 tyC50 rfl rfl rfl rfl rfl rfl ?_
    refine l_val (r_lenSlice Try.underlying50 rfl rfl) rfl rfl ?_
    refine l_val (r_lssN rfl rfl rfl rfl) rfl rfl ?_
    refine l_split ?_ ?_
    · intro hc2
      replace hc2 := of_decide_eq_true hc2
      refine l_end ?_
      refine n_then ?_
      refine c_true rfl ?_
      refine c_skip ?_
      refine n_then ?_
      refine c_seq ?_
      refine c_block ?_
      refine c_seq ?_
      refine c_reg ?_
      refine l_val (r_move (v := .int _ _) rfl rfl) rfl rfl ?_
      refine l_val (r_move (v := .int _ _) rfl rfl) rfl rfl ?_
      refine l_val (r_neqN rfl rfl rfl rfl) rfl rfl ?_
      refine l_split ?_ ?_
      · intro hc3
        replace hc3 := of_decide_eq_true hc3
        obtain ⟨s0, s1, e0, e1, et, ei⟩ := hO.row.pair (i := x.1) (by omega)
        refine l_end ?_
        refine n_then ?_
        refine c_true rfl ?_
        refine c_reg ?_
        refine l_val (r_move (v := .slice _ _ _) rfl rfl) rfl rfl ?_
        refine l_val (r_fieldAddr 1 Try.underlying52 rfl tyC50.size rfl rfl rfl) rfl rfl ?_
        refine l_loadC hW 1 tyC50 rfl rfl rfl rfl rfl rfl ?_
        refine l_val (r_move (v := .int _ _) rfl rfl) rfl rfl ?_
        refine l_val (r_indexAddrSl (n := x.1) Try.underlying50 tyA99.size rfl rfl rfl (by omega)) rfl rfl ?_
        refine l_loadP hW 2 tyA99 (i := 0 + x.1 * 2) (vs := [s0.v, s1.v]) rfl rfl rfl rfl rfl (by omega) (by rw [Nat.zero_add]; exact et) ?_
        refine l_buildSliceF hW (bsl50_1_0 _ _ _ _ _ _) rfl rfl rfl rfl ?_
        intro gb W hW
        refine l_appendB tyE50 (L := ⟨gb, [s0.v, s1.v], _⟩ :: ([_, _, _] ++ L ++ Bs1 ++ Bs2)) hR hW 0 (N := x.2.1 + 1) rfl rfl rfl rfl rfl rfl rfl rfl (by simp [Value.oneCell']) (by unfold maxLen; omega) (by omega) ?_
        intro a1 c1 Bs5 W hO1 hW
        replace hO1 := hO1.castx rfl (xs' := (sk ss i (x.1 + 1)).map Sl.v) (by rw [sk_add (by omega) e0 e1]; simp)
        refine l_val (r_assign (v := .slice _ _ _) rfl rfl) rfl rfl ?_
        refine l_end ?_
        refine n_block ?_
        refine n_then ?_
        refine c_reg ?_
        refine l_val (r_move (v := .int _ _) rfl rfl) rfl rfl ?_
        refine l_val (r_addN (n := 1) rfl rfl rfl (by omega)) rfl rfl ?_
        refine l_val (r_assign (v := .int _ _) rfl rfl) rfl rfl ?_
        refine l_end ?_
        refine n_then ?_
        exact loop_next (x.1 + 1, x.2.1 + 1, a1, c1, Bs5) (by kernel_rfl) (hW.drop 1) ⟨by simp only; omega, by simp only; omega, hO1⟩ (by simp only; omega)
      · intro hc3
        replace hc3 := of_decide_eq_false hc3
        refine l_end ?_
        refine n_then ?_
        refine c_false rfl ?_
        refine c_skip ?_
        refine n_block ?_
        refine n_then ?_
        refine c_reg ?_
        refine l_val (r_move (v := .int _ _) rfl rfl) rfl rfl ?_
        refine l_val (r_addN (n := 1) rfl rfl rfl (by omega)) rfl rfl ?_
        refine l_val (r_assign (v := .int _ _) rfl rfl) rfl rfl ?_
        refine l_end ?_
        refine n_then ?_
        exact loop_next (x.1 + 1, x.2.1, x.2.2.1, x.2.2.2.1, x.2.2.2.2) (by kernel_rfl) hW ⟨by simp only; omega, by simp only; omega, by simp only; rw [show sk ss i (x.1 + 1) = sk ss i x.1 by rw [show x.1 = i by omega, sk_skip]]; exact hR⟩ (by simp only; omega)
    · intro hc2
      replace hc2 := of_decide_eq_false hc2
      have e : x.1 = pn := by omega
      rw [e, sk_all (by omega) (by omega)] at hR
      refine l_end ?_
      refine n_then ?_
      refine c_false rfl ?_
      refine c_exit ?_
      refine x_then ?_
      refine x_then ?_
      refine x_hit ?_
      refine n_then ?_
      refine c_seq ?_
      refine c_reg ?_
      refine l_val (r_move (v := .slice _ _ _) rfl rfl) rfl rfl ?_
      refine l_val (r_fieldAddr 1 Try.underlying52 rfl tyC50.size rfl rfl rfl) rfl rfl ?_
      refine l_storeC hW 1 tyC50 (v := .slice _ _ _) rfl rfl rfl rfl rfl rfl (by first | rfl | omega | (simp; done) | (simp; omega)) rfl ?_
      intro W hW
      refine l_end ?_
      refine n_then ?_
      refine c_seq ?_
      refine c_reg ?_
      refine l_loadA hW 1 tyA52 rfl rfl rfl rfl rfl (by first | rfl | exact kc_len _ | exact kcf_len _ | (simp; done)) ?_
      refine l_storeA hW 0 tyA52 rfl rfl rfl rfl rfl rfl (by first | rfl | exact kc_len _ | exact kcf_len _ | (simp; done)) (by first | rfl | exact kc_len _ | exact kcf_len _ | (simp; done)) (by first | exact kc_one _ | exact kcf_one _ | (simp [Value.oneCell']; done)) ?_
      intro W hW
      refine l_end ?_
      refine n_then ?_
      refine c_ret ?_
      refine ret_cell hW 0 tyA52 rfl rfl rfl (by first | rfl | exact kc_len _ | exact kcf_len _ | (simp; done)) ?_
      have hps : (heardAt h i l m).ps = h.ps.take (2 * i) ++ h.ps.drop (2 * i + 2) := if_neg (by omega)
      have hnm : (heardAt h i l m).named = merged h.named l := if_neg (by omega)
      have hW3 : Cl b (L ++ ((Bs1 ++ Bs2) ++ x.2.2.2.2)) W := by rw [← List.append_assoc, ← List.append_assoc]; exact hW.drop 3
      exact ⟨_, (Bs1 ++ Bs2) ++ x.2.2.2.2, rfl, ⟨⟨x.2.2.1, x.2.1, x.2.2.2.1⟩, r2, q2, _, x.2.2.2.2, Bs1 ++ Bs2, rfl, ⟨hR, by rw [hps]; simp [hO.len], by rw [hps]; exact (hO.ps.sub (List.sublist_append_right _ _)).cut hO.len (by omega), hr2.sub ((List.sublist_append_left _ _).trans (List.sublist_append_left _ _)), by rw [hnm]; exact hq2.sub ((List.sublist_append_right Bs1 Bs2).trans (List.sublist_append_left _ _))⟩, rfl⟩, hW3.perm List.perm_append_comm⟩

end Go.Proofs.Ytoegpalacppllaa

/- What is heard of a number below 0, by the reference. -/
namespace Go.Proofs.Ytoegpalacppllaa
open Go.RowKit Pl
open Tr Hn
set_option maxRecDepth 10000 in
/-- headend/headendref08.Hear -/
theorem g_rHearM (h : Hu) (pa : Option Addr) (pn pc : Nat) (r q : Sl) (ss : List Sl) (x : Int) (hx : x < 0) (hsm : Small h) (hfit : pn * 48 ≤ 140737488351232) : GivesX Try.prog 24 [.agg [.int .i64 h.users, .slice pa pn pc, .slice r.a r.n r.c, .slice q.a q.n q.c, .int .i64 h.rounds].toArray, .int .i64 x].toArray (fun w => RdHu w h ⟨pa, pn, pc⟩ r q ss) (fun v Bs => ∃ a, v = .tuple #[a, .int .i64 ((hear h x).2 : Int)] ∧ huX (hear h x).1 a Bs) := by
  refine givesX_of Try.func24 rfl (bs := [.agg [.int .i64 h.users, .slice pa pn pc, .slice r.a r.n r.c, .slice q.a q.n q.c, .int .i64 h.rounds].toArray, .int .i64 x, undef, undef, undef, undef, undef, undef, undef, undef, undef, undef, undef, undef, undef, undef, undef, undef, undef, undef, undef, undef, undef, undef, undef, undef, undef, undef, undef, undef, undef, undef, undef, undef, undef, undef, undef, undef, undef, undef, undef, undef, undef, undef, undef, undef, undef, undef, undef, undef, undef, undef, undef, undef, undef, undef, undef, undef, undef, undef, undef, undef, undef, undef, undef, undef, undef, undef, undef, undef, undef, undef, undef, undef, undef, undef, undef, undef, undef, undef, undef, undef, undef, undef, undef, undef, undef, undef, undef, undef, undef, undef, undef, undef, undef, undef, undef, undef, undef, undef]) rfl ?_
  intro w hP hW
  have hpn := hP.pn
  have hpl := hP.len
  simp only at hpn
  have hgl := hP.gl
  have hgs := hsm.sum
  have hone := hsm.one
  refine c_seq ?_
  refine c_reg ?_
  refine l_box hW rfl rfl rfl rfl ?_
  intro g1 W hW
  refine l_alloc hW tyZ52 rfl rfl rfl ?_
  intro g2 W hW
  refine l_val (r_assign (v := .int _ _) rfl rfl) rfl rfl ?_
  refine l_end ?_
  refine n_then ?_
  refine c_seq ?_
  refine c_seq ?_
  refine c_reg ?_
  refine l_loadA hW 1 tyA52 rfl rfl rfl rfl rfl (by first | rfl | exact kc_len _ | exact kcf_len _ | (simp; done)) ?_
  refine l_callR hW (g_ValidHunt h pa pn pc r q ss hsm hfit) en46 (hP.past hW.below) rfl rfl rfl rfl ?_
  intro W hW
  refine l_split ?_ ?_
  · intro hc1
    refine l_val (r_not rfl rfl) rfl rfl ?_
    refine l_end ?_
    refine n_then ?_
    refine c_false rfl ?_
    refine c_skip ?_
    refine n_then ?_
    refine c_seq ?_
    refine c_seq ?_
    refine c_reg ?_
    refine l_val (r_move (v := .int _ _) rfl rfl) rfl rfl ?_
    refine l_val (r_lss (b := true) rfl rfl rfl (decide_eq_true hx)) rfl rfl ?_
    refine l_val (r_move (v := .bool _) rfl rfl) rfl rfl ?_
    refine l_not (by kernel_rfl) rfl ?_
    refine l_not (by kernel_rfl) rfl ?_
    refine l_not (by kernel_rfl) rfl ?_
    refine l_not (by kernel_rfl) rfl ?_
    refine l_not (by kernel_rfl) rfl ?_
    refine l_not (by kernel_rfl) rfl ?_
    refine l_val (r_pick (v := .bool _) rfl rfl rfl) rfl rfl ?_
    refine l_val (r_move (v := .bool _) rfl rfl) rfl rfl ?_
    refine l_not (by kernel_rfl) rfl ?_
    refine l_not (by kernel_rfl) rfl ?_
    refine l_not (by kernel_rfl) rfl ?_
    refine l_not (by kernel_rfl) rfl ?_
    refine l_not (by kernel_rfl) rfl ?_
    refine l_not (by kernel_rfl) rfl ?_
    refine l_not (by kernel_rfl) rfl ?_
    refine l_not (by kernel_rfl) rfl ?_
    refine l_val (r_pick (v := .bool _) rfl rfl rfl) rfl rfl ?_
    refine l_end ?_
    refine n_then ?_
    refine c_true rfl ?_
    refine c_seq ?_
    refine c_reg ?_
    refine l_val (r_build (ps := []) (bld52_) rfl rfl) rfl rfl ?_
    refine l_storeA hW 0 tyA52 rfl rfl rfl rfl rfl rfl (by first | rfl | exact kc_len _ | exact kcf_len _ | (simp; done)) (by first | rfl | exact kc_len _ | exact kcf_len _ | (simp; done)) (by first | exact kc_one _ | exact kcf_one _ | (simp [Value.oneCell']; done)) ?_
    intro W hW
    refine l_val (r_assign (v := .int _ _) rfl rfl) rfl rfl ?_
    refine l_end ?_
    refine n_then ?_
    refine c_ret ?_
    refine r_then ?_
    refine ret_cell_tmp hW 0 tyA52 rfl rfl rfl (by first | rfl | exact kc_len _ | exact kcf_len _ | (simp; done)) rfl ?_
    have e := hear_80 (x := x) hc1 (.inl hx)
    exact ⟨_, [], rfl, ⟨.agg (huC noHunt Sl.no Sl.no Sl.no).toArray, by rw [e]; rfl, by rw [e]; exact ⟨_, _, _, _, rfl, no_newHu⟩⟩, hW.sub (List.nil_sublist _)⟩
  · intro hc1
    refine l_val (r_not rfl rfl) rfl rfl ?_
    refine l_end ?_
    refine n_then ?_
    refine c_true rfl ?_
    refine c_seq ?_
    refine c_reg ?_
    refine l_val (r_build (ps := []) (bld52_) rfl rfl) rfl rfl ?_
    refine l_storeA hW 0 tyA52 rfl rfl rfl rfl rfl rfl (by first | rfl | exact kc_len _ | exact kcf_len _ | (simp; done)) (by first | rfl | exact kc_len _ | exact kcf_len _ | (simp; done)) (by first | exact kc_one _ | exact kcf_one _ | (simp [Value.oneCell']; done)) ?_
    intro W hW
    refine l_val (r_assign (v := .int _ _) rfl rfl) rfl rfl ?_
    refine l_end ?_
    refine n_then ?_
    refine c_ret ?_
    refine r_then ?_
    refine ret_cell_tmp hW 0 tyA52 rfl rfl rfl (by first | rfl | exact kc_len _ | exact kcf_len _ | (simp; done)) rfl ?_
    have e := hear_8 (x := x) hc1
    exact ⟨_, [], rfl, ⟨.agg (huC noHunt Sl.no Sl.no Sl.no).toArray, by rw [e]; rfl, by rw [e]; exact ⟨_, _, _, _, rfl, no_newHu⟩⟩, hW.sub (List.nil_sublist _)⟩

end Go.Proofs.Ytoegpalacppllaa

/- A range over a function whose rounds leave blocks of which only something is known; iterators that read what lay there. No function of the program is in sight here. -/
namespace Go.Proofs.Ytoegpalacppllaa
open Go.RowKit

section
variable {P : Program} {ops : Array Oper} {Q : Exit → Act → World → Prop} {bs : List Value} {us : List (Nat × Value)} {ds : List Deferred} {b : Base} {W : World} {rest : List Oper} {o : Oper} {L : List Blk} {d : Nat} {v : Value} {m : Nat}

/-- what an iterator does, its caller's world being this one at its call: it yields n times, each round leading what is known of the caller's blocks one step on -/
def IterJ (P : Program) (w : World) (gf : Nat) (lb : Array Value) (n : Nat) (enc : Nat → Array Value) : Prop :=
  ∀ (r : World) (l : Nat) (J : Nat → List Blk → Prop) (L0 : List Blk) (W : World),
    (∀ (i : Nat) (L Lc : List Blk) (W : World), i < n → J i Lc → Cl ⟨w, r⟩ (Lc ++ L) W → YieldAt Fence.wide 0 P l (enc i) W fun e W' => e = .returned (.bool true) ∧ ∃ Lc', J (i + 1) Lc' ∧ Cl ⟨w, r⟩ (Lc' ++ L) W') →
    J 0 L0 → Cl ⟨w, r⟩ L0 W → CallsIn Fence.wide 0 P gf (#[.func (.yield l) #[] #[]] ++ lb) W fun e W' => (∃ v, e = .returned v) ∧ ∃ Lc', J n Lc' ∧ Cl ⟨w, r⟩ Lc' W'

theorem l_yieldJ {l : Nat} {x : Operand} {xs : Array Operand} {ts : Array TypeId} {args : List Value} {J : List Blk → Prop} (hY : YieldAt Fence.wide 0 P l args.toArray W fun e W' => e = .returned (.bool true) ∧ ∃ Lc', J Lc' ∧ Cl b (Lc' ++ L) W')
    (hg : o.guard = none) (ho : o.op = .call { callee := .value x, args := xs, argTypes := ts }) (hx : ev bs us x = .func (.yield l) #[] #[]) (ha : xs.toList.map (ev bs us) = args) (hd : o.dst = some d)
    (h : ∀ Lc' W', J Lc' → Cl b (Lc' ++ L) W' → LW (some none) 0 P ops Q rest (fr bs ((d, .bool true) :: us) ds) W') : LW (some none) 0 P ops Q (o :: rest) (fr bs us ds) W := by
  refine ⟨wpListIn_step fun K hK => ?_⟩
  rw [if_pos (wanted_none hg)]
  refine ⟨about_ok none, ?_⟩
  obtain ⟨fn, tmps, assign, body, hr, hR⟩ := hY
  have hrun : (execOp (fr bs us ds).eval o).run P W = .ok (.round l fn tmps assign body) W := by rw [eval_ev, run_callY ho hx ha]; exact hr
  have e : o.semAt (RF none).round (fr bs us ds).eval = execOp (fr bs us ds).eval o := Oper.semAt_eq _ _ _ (not_defer hrun (fun d h => by cases h))
  rw [e, hrun, Oper.uponIn_round]
  refine ⟨RF_depth none, RoundIn.mono hR ?_⟩
  rintro e w ⟨rfl, Lc', hj, hw⟩
  refine hK _ _ ?_
  rw [hd, put_st]
  exact (h Lc' w hj hw).h

theorem c_rangeJ {g : Operand} {ps : Array Tmp} {assign body : Code} {gf : FuncId} {lb : Array Value} {n : Nat} {enc : Nat → Array Value} (hI : IterJ P b.w gf lb n enc) (en : Enters P gf) (hg : ev bs us g = .func (.func gf) #[] lb) (hps : ∀ i, (enc i).size = ps.size)
    (J : Nat → List Blk → Prop) (h0 : J 0 L) (hW : Cl b L W) (A : Nat → Act)
    (E : Nat → List Value) (hE : ∀ i, ({ tmps := (ps.zip (enc i)).foldl (fun t (p, v) => t.setIfInBounds p v) (fr bs us ds).tmps, defers := [] } : Act) = fr (E i) [] [])
    (hassign : ∀ (l i : Nat) (W : World), CW (some (some l)) 0 P assign (Exit.then (fun a W' => a = A i ∧ W' = W) (fun _ _ _ => False)) (fr (E i) [] []) W)
    (hbody : ∀ (l : Nat) (r : World) (i : Nat) (L Lc : List Blk) (W : World), i < n → J i Lc → Cl ⟨b.w, r⟩ (Lc ++ L) W → CW (some (some l)) 0 P body (fun e _ W' => e = .normal ∧ ∃ Lc', J (i + 1) Lc' ∧ Cl ⟨b.w, r⟩ (Lc' ++ L) W') (A i) W)
    (hdone : ∀ (D : Nat) (r : World) (Lc : List Blk) (W' : World), b.w.heap.size ≤ D → J n Lc → Cl ⟨b.w, r⟩ Lc W' → r.heap[D]? = some (.deferred (some [])) → Q .normal (fr bs us ({ target := .collected D, args := #[] } :: ds)) W') :
    CW (some none) 0 P (Code.rangeFunc g ps assign body) Q (fr bs us ds) W := by
  refine wpIn_rangeFunc ?_
  intro fn hfn
  obtain ⟨rec, hrec⟩ : ∃ rec : LoopState → Option Code → Loop, rec = fun st pe => { state := st, pending := pe, fn, tmps := (fr bs us ds).tmps, params := ps, assign, body, defers := W.heap.size } := ⟨_, rfl⟩
  obtain ⟨W1, hW1⟩ : ∃ W1, (W.alloc (.deferred (some []))).alloc (.loop (rec .ready none)) = W1 := ⟨_, rfl⟩
  have hL1 : W1.heap[W.heap.size + 1]? = some (.loop (rec .ready none)) := by
    rw [← hW1]; have := World.alloc_heap_new (W.alloc (.deferred (some []))) (.loop (rec .ready none)); rwa [World.size_alloc] at this
  have hK1 : W1.heap[W.heap.size]? = some (.deferred (some [])) := by
    rw [← hW1]; exact (Below.heap_alloc _ _ _ (by simp)).trans (World.alloc_heap_new W _)
  have hb1 : Below W.heap.size W W1 := by
    rw [← hW1]; exact ((Below.refl _ W).alloc (Nat.le_refl _) _).alloc (by simp) _
  have hC1 := hW.rebase hb1
  have hsz := hW.below.size
  refine ⟨W.heap.size + 1, [{ target := .collected W.heap.size, args := #[] }], W1, { target := .fn (.func gf) lb, args := #[.func (.yield (W.heap.size + 1)) #[] #[]] }, W1, gf,
    #[.func (.yield (W.heap.size + 1)) #[] #[]] ++ lb, W1, ?_, ?_, fun _ _ => trivial, ?_, fun h => RF_depth none h, ?_⟩
  · rw [← hW1, hrec]; exact run_enterLoop_outer _ _ _ _ _
  · rw [eval_ev]; simp only [resolve, hg]
    simp [go_sem]
    rfl
  · simp [invoke, go_sem, en _ W1]
  · refine (hI W1 (W.heap.size + 1) J L W1 ?_ h0 hC1).mono ?_
    · intro i L Lc W2 hi hj hcl
      have hl := hcl.oth _ _ hL1 rfl
      have hy := run_yield (P := P) (args := enc i) hl (by rw [hrec]; exact hps i)
      rw [hrec] at hy
      refine ⟨fn, _, assign, body, hy, roundIn_of_wpIn hfn ((hE i) ▸ wpIn_mono (hassign (W.heap.size + 1) i W2) ?_)⟩
      intro e a W3 he
      cases e with
      | normal =>
        obtain ⟨rfl, rfl⟩ := he
        refine ⟨_, run_beginRound hl (by rw [hrec]), ?_⟩
        have hlt : W.heap.size + 1 < W3.heap.size := (Array.getElem?_eq_some_iff.1 hl).1
        have hl2 : (W3.putObj (W.heap.size + 1) (.loop { rec .ready none with state := .busy })).heap[W.heap.size + 1]? = some (.loop { rec .ready none with state := .busy }) := World.putObj_heap_same hlt
        refine wpIn_mono (hbody (W.heap.size + 1) _ i L Lc _ hi hj (hcl.put _ hl rfl (by show b.w.heap.size ≤ _; omega))) ?_
        rintro e a W4 ⟨rfl, Lc', hj', h4⟩
        have hl4 := h4.oth _ _ hl2 rfl
        refine ⟨_, _, run_endRound none hl4, rfl, Lc', hj', ?_⟩
        have h5 := h4.put (.loop (rec .ready none)) hl4 rfl (by show b.w.heap.size ≤ _; omega)
        have hpo : (W4.putObj (W.heap.size + 1) (.loop { ({ rec .ready none with state := .busy } : Loop) with state := if (none : Option Code).isNone then .ready else .done, pending := none })) = W4.putObj (W.heap.size + 1) (.loop (rec .ready none)) := by rw [hrec]; rfl
        rw [hpo]
        refine ⟨h5.below, h5.holds, h5.own, h5.apart, fun k o hk ho => ?_⟩
        by_cases hkl : k = W.heap.size + 1
        · subst hkl
          have hk' : W1.heap[W.heap.size + 1]? = some o := hk
          rw [hL1] at hk'
          rw [← hk']
          exact World.putObj_heap_same (Array.getElem?_eq_some_iff.1 hl4).1
        · refine (World.putObj_heap_other hkl).trans (h4.oth k o ?_ ho)
          exact (World.putObj_heap_other hkl).trans (hcl.oth k o hk ho)
      | _ => exact he.elim
    · rintro e W3 ⟨⟨v, rfl⟩, Lc', hj', h3⟩
      have hl := h3.oth _ _ hL1 rfl
      have hk := h3.oth _ _ hK1 rfl
      refine ⟨_, _, run_endLoop hl (by rw [hrec]; simp), ?_⟩
      have hpe : (rec .ready none).pending = none := by rw [hrec]
      rw [hpe]
      exact hdone W.heap.size _ Lc' _ hsz hj' (h3.put _ hl rfl (by show b.w.heap.size ≤ _; omega)) ((World.putObj_heap_other (by omega)).trans hk)

variable {fn : Func} {R' : Ending → World → Prop}
theorem givesXM_of {f : FuncId} {c : Code} {args : List Value} {Pre : World → Prop} {X : Value → List Blk → Prop} (hf : P.funcs[f]? = some fn) (hb : fn.body = some c) (hl : args ++ List.replicate (fn.ntmps - args.length) undef = bs)
    (h : ∀ w, Pre w → Cl (base w) [] w → CW (some none) 0 P c (bodyPostM Fence.wide 0 P fn (fun e w' => ∃ v Bs, e = .returned v ∧ X v Bs ∧ Cl (base w) Bs w')) (fr bs [] []) w) : GivesX P f args.toArray Pre X := fun w hp => by
  refine callsIn_wide.1 (callsIn_of_wp_marks (n := 0) hf hb trivial ?_)
  have e : args.toArray ++ Array.replicate (fn.ntmps - args.toArray.size) undef = bs.toArray := by
    rw [← hl]; simp
  rw [e]
  exact h w hp (Cl.nil w)
theorem iterJ_of {w : World} {gf : FuncId} {c : Code} {lb : List Value} {n : Nat} {enc : Nat → Array Value} {F : Nat → List Value} (hf : P.funcs[gf]? = some fn) (hb : fn.body = some c) (hl : ∀ l, [Value.func (.yield l) #[] #[]] ++ lb ++ List.replicate (fn.ntmps - (lb.length + 1)) undef = F l)
    (h : ∀ (r : World) (l : Nat) (J : Nat → List Blk → Prop) (L0 : List Blk) (W : World),
      (∀ (i : Nat) (L Lc : List Blk) (W : World), i < n → J i Lc → Cl ⟨w, r⟩ (Lc ++ L) W → YieldAt Fence.wide 0 P l (enc i) W fun e W' => e = .returned (.bool true) ∧ ∃ Lc', J (i + 1) Lc' ∧ Cl ⟨w, r⟩ (Lc' ++ L) W') →
      J 0 L0 → Cl ⟨w, r⟩ L0 W → CW (some none) 0 P c (bodyPostM Fence.wide 0 P fn (fun e W' => (∃ v, e = .returned v) ∧ ∃ Lc', J n Lc' ∧ Cl ⟨w, r⟩ Lc' W')) (fr (F l) [] []) W) : IterJ P w gf lb.toArray n enc := fun r l J L0 W hY h0 hW => by
  refine callsIn_of_wp_marks hf hb trivial ?_
  have e : #[Value.func (.yield l) #[] #[]] ++ lb.toArray ++ Array.replicate (fn.ntmps - (#[Value.func (.yield l) #[] #[]] ++ lb.toArray).size) undef = (F l).toArray := by
    rw [← hl]; simp
  rw [e]
  exact h r l J L0 W hY h0 hW
/-- what lay there lies there still -/
theorem Cl.tobase {w r : World} {L : List Blk} {W : World} (h : Cl ⟨w, r⟩ L W) : Cl (base w) L W := ⟨h.below, h.holds, h.own, h.apart, fun k _ hk _ => (h.below.block k (Array.getElem?_eq_some_iff.1 hk).1).trans hk⟩
end
end Go.Proofs.Ytoegpalacppllaa

/- Sorting numbers in memory of one's own; an iterator over a list that lay there. No function of the program is in sight here. -/
namespace Go.Proofs.Ytoegpalacppllaa
open Go.RowKit Go.Sort Pl Tr Hn

def sortI (l : List Int) : List Int := l.mergeSort fun x y => decide (x ≤ y)
theorem sortI_perm (l : List Int) : (sortI l).Perm l := List.mergeSort_perm l _
theorem sortI_len (l : List Int) : (sortI l).length = l.length := (sortI_perm l).length_eq
theorem sortI_le (l : List Int) : (sortI l).Pairwise (fun x y => x ≤ y) := by
  have := List.pairwise_mergeSort (le := fun x y : Int => decide (x ≤ y)) (fun a b c h1 h2 => by simp only [decide_eq_true_eq] at *; omega) (fun a b => by simp only [Bool.or_eq_true, decide_eq_true_eq]; omega) l
  exact this.imp fun h => by simpa using h
theorem sortI_nil : sortI [] = [] := List.eq_nil_of_length_eq_zero (sortI_len [])
theorem merged_sort {a b : List Int} (hn : (a ++ b).Nodup) (hr : ∀ x ∈ a ++ b, 0 ≤ x ∧ x < 64) : sortI (a ++ b) = merged a b := merged_eq (sortI_le _) (sortI_perm _) hn hr
theorem il_snoc {l : List Int} {i : Nat} (h : i < l.length) : il (l.take i) ++ [.int .i64 (at_ l i)] = il (l.take (i + 1)) := by
  have := at_get h
  rw [List.getElem?_eq_getElem h] at this
  injection this with this
  rw [List.take_succ_eq_append_getElem h, il_append, this]; rfl
theorem take_flat {gs : List LI} {i : Nat} {l : LI} (h : gs[i]? = some l) : (gs.take (i + 1)).flatten = (gs.take i).flatten ++ l := by
  obtain ⟨hlt, h⟩ := List.getElem?_eq_some_iff.1 h
  rw [List.take_succ_eq_append_getElem hlt, List.flatten_append, h]; simp
theorem sumL_flat (gs : List LI) : sumL gs = gs.flatten.length := (flat_len gs).symm
/-- what a sort does -/
structure SortsI (P : Program) (f : FuncId) : Prop where
  some : ∀ (blk off cap : Nat) (zs : List Int) (w : World), Holds (Value.int .i64) w blk off zs.toArray → blk < w.heap.size → zs.length < 4611686018427387904 →
    Calls P f #[.slice (some ⟨blk, off, none⟩) zs.length cap] w fun e w' => e = .returned (.tuple #[]) ∧ ∃ n os, w' = grow (putRow (Value.int .i64) (Sort.ahead w n) blk off (zs.mergeSort fun x y => decide (x ≤ y)).toArray) os
  none : ∀ (p : Option Addr) (cap : Nat) (w : World), Calls P f #[.slice p 0 cap] w fun e w' => e = .returned (.tuple #[]) ∧ w' = w

section
variable {P : Program} {ops : Array Oper} {Q : Exit → Act → World → Prop} {bs : List Value} {us : List (Nat × Value)} {ds : List Deferred} {w0 : Base} {W W' : World} {rest : List Oper} {o : Oper} {L Bs : List Blk} {d : Nat} {v : Value} {r : Option (Option Nat)} {m : Nat}
/-- a block is written anew, others are added -/
theorem Cl.regrown {g : Nat} {e : TypeId} {cur cs : List Value} (h : Cl w0 (⟨g, cur, e⟩ :: L) W) (hg : W.grownBy W' (some g)) (hc : W'.heap[g]? = some (.cells cs.toArray e (0, 0))) : Cl w0 (⟨g, cs, e⟩ :: L) W' := by
  have hown := h.own ⟨g, cur, e⟩ (by simp)
  have hap := List.pairwise_cons.1 h.apart
  simp only at hown
  refine ⟨h.below.trans ⟨hg.os, hg.tape, hg.output, hg.size, fun k hk => hg.block k (Nat.lt_of_lt_of_le hk h.below.size) (by simp; omega)⟩, ?_, ?_, List.pairwise_cons.2 ⟨hap.1, hap.2⟩, ?_⟩
  · intro x hx
    rcases List.mem_cons.1 hx with rfl | hx
    · exact hc
    · have hne := hap.1 x hx
      simp only at hne
      exact (hg.block x.id (h.lt (by simp [hx])) (by simp; omega)).trans (h.holds x (by simp [hx]))
  · intro x hx
    rcases List.mem_cons.1 hx with rfl | hx
    · exact hown
    · exact h.own x (by simp [hx])
  · intro k o hk ho
    have h1 := h.oth k o hk ho
    refine (hg.block k (Array.getElem?_eq_some_iff.1 h1).1 fun e => ?_).trans h1
    simp only [Option.some.injEq] at e
    subst e
    have h2 := h.holds ⟨k, cur, e⟩ (by simp)
    rw [h1] at h2
    injection h2 with h2
    subst h2; cases ho
theorem heap_sorted {w : World} {g n : Nat} {os : Array Obj} {cur : Array Value} {e : TypeId} {fr : Nat × Nat} (d : Array Int) (hb : w.heap[g]? = some (.cells cur e fr)) :
    (grow (putRow (Value.int .i64) (Sort.ahead w n) g 0 d) os).heap[g]? = some (.cells (putCells (Value.int .i64) 0 d cur) e fr) := by
  have hg : g < w.heap.size := (Array.getElem?_eq_some_iff.1 hb).1
  rw [heap_grow_old _ _ (by simpa using hg)]
  simp [putRow, mapBlock, Sort.ahead, Array.getElem?_modify, hb, onCells]
theorem grownBy_sorted {w : World} {g n : Nat} {os : Array Obj} (d : Array Int) : w.grownBy (grow (putRow (Value.int .i64) (Sort.ahead w n) g 0 d) os) (some g) := by
  refine ⟨rfl, rfl, rfl, by simp, fun k hk hne => ?_⟩
  rw [heap_grow_old _ _ (by simpa using hk)]
  have : g ≠ k := fun e => hne (by rw [e])
  simp [putRow, mapBlock, Sort.ahead, Array.getElem?_modify, this]
theorem take_putCells (cur : Array Value) (ts : List Int) (h : ts.length ≤ cur.size) : (putCells (Value.int .i64) 0 ts.toArray cur).toList.take ts.length = il ts := by
  apply List.ext_getElem?
  intro j
  by_cases hj : j < ts.length
  · rw [List.getElem?_take_of_lt hj, Array.getElem?_toList]
    simp [putCells, il, hj, show j < cur.size by omega]
  · rw [List.getElem?_take_eq_none (by omega), List.getElem?_eq_none (by rw [il_len]; omega)]
theorem sort_own {f : FuncId} (hS : SortsI P f) {e : TypeId} {a : Option Addr} {n c : Nat} {l : List Int} (hO : OwnSl e 1 a n c (il l) Bs) (hW : Cl w0 (L ++ Bs) W) (hn : n < 4611686018427387904) :
    Calls P f #[.slice a n c] W fun e' w' => e' = .returned (.tuple #[]) ∧ ∃ Bs', OwnSl e 1 a n c (il (sortI l)) Bs' ∧ Cl w0 (L ++ Bs') w' := by
  have hl := hO.1
  rw [il_len, Nat.mul_one] at hl
  rcases hO.2 with ⟨rfl, rfl, rfl, rfl⟩ | ⟨g, cur, rfl, rfl, h3, h4, h5, h6⟩
  · refine (hS.none .none 0 W).mono ?_
    rintro e' w' ⟨rfl, rfl⟩
    have : l = [] := List.eq_nil_of_length_eq_zero hl
    subst this
    exact ⟨rfl, [], by rw [sortI_nil]; exact hO, hW⟩
  · have hg : W.heap[g]? = some (.cells cur.toArray e (0, 0)) := hW.holds ⟨g, cur, e⟩ (by simp)
    have hH : Holds (Value.int .i64) W g 0 l.toArray := by
      intro j hj
      have hj' : j < l.length := by simpa using hj
      refine ⟨?_, by simp [World.frozen?, hg]⟩
      rw [Nat.zero_add, cell_at hg]
      have : (il l)[j]? = some (IV (l.getD j 0)) := il_get hj'
      rw [take_get h6 this]
      simp [hj']
    have := hS.some g 0 c l W hH (Array.getElem?_eq_some_iff.1 hg).1 (by omega)
    rw [hl] at this
    refine this.mono ?_
    rintro e' w' ⟨rfl, k, os, rfl⟩
    have hW' := hW.perm List.perm_append_comm
    have hr : Cl w0 (⟨g, (putCells (Value.int .i64) 0 (sortI l).toArray cur.toArray).toList, e⟩ :: L) _ := Cl.regrown (cs := (putCells (Value.int .i64) 0 (sortI l).toArray cur.toArray).toList) hW' (grownBy_sorted (n := k) (os := os) (sortI l).toArray) (by simpa using heap_sorted (n := k) (os := os) (sortI l).toArray hg)
    refine ⟨rfl, _, ⟨by rw [il_len, sortI_len]; omega, .inr ⟨g, _, rfl, rfl, h3, h4, by simpa [putCells] using h5, ?_⟩⟩, hr.perm (List.perm_append_singleton _ _).symm⟩
    have hlen : n * 1 = (sortI l).length := by rw [sortI_len]; omega
    rw [hlen]
    exact take_putCells _ _ (by rw [sortI_len]; simp; omega)
theorem l_sort {f : FuncId} (hS : SortsI P f) {e : TypeId} {a : Option Addr} {n c : Nat} {l : List Int} {x : Operand} {ts : Array TypeId} (hO : OwnSl e 1 a n c (il l) Bs) (hW : Cl w0 (L ++ Bs) W) (hn : n < 4611686018427387904) (he : Enters P f) (hg : o.guard = none) (ho : o.op = .call { callee := .value (.func f), args := #[x], argTypes := ts }) (hx : ev bs us x = .slice a n c) (hd : o.dst = some d)
    (h : ∀ Bs' W', OwnSl e 1 a n c (il (sortI l)) Bs' → Cl w0 (L ++ Bs') W' → LW r m P ops Q rest (fr bs ((d, .tuple #[]) :: us) ds) W') : LW r m P ops Q (o :: rest) (fr bs us ds) W :=
  LW.call (wanted_none hg) (by rw [eval_ev]; exact run_call (args := [.slice a n c]) he ho (by simp [hx]) W) ((sort_own hS hO hW hn).mono fun _ w ⟨he, Bs', hO', hc⟩ => ⟨_, he, by show LW r m P ops Q rest ((fr bs us ds).put o.dst _) w; rw [hd, put_st]; exact h Bs' w hO' hc⟩)

theorem r_cap {t e : TypeId} {x : Operand} {a : Option Addr} {n c : Nat} (ht : P.underlying t = some (.slice e)) (ho : o.op = .call { callee := .builtin .cap, args := #[x], argTypes := #[t] }) (hx : ev bs us x = .slice a n c) : Runs P bs us o (.int .i64 (c : Int)) := fun w => by
  unfold execOp; simp [ho, hx, resolve, invoke, builtin, Builtin.cap_, run_underlying ht, goInt]
/-- zero values are appended to nil -/
theorem l_appendZ {t tn e sz bytes k : Nat} (hE : TyE P t e sz bytes) (hn : P.underlying tn = some (.int .i64)) (hW : Cl w0 L W) {s x : Operand} (hk : 0 < k) (hm : k ≤ 4611686018427387904) (hfit : k * bytes ≤ 140737488355328) (hg : o.guard = none) (ho : o.op = .call { callee := .builtin .append, args := #[s, x], argTypes := #[t, tn] }) (hs : ev bs us s = .slice none 0 0) (hx : ev bs us x = .int .i64 (k : Int)) (hd : o.dst = some d)
    (h : ∀ g c cur W', k ≤ c → c ≤ maxLen → cur.length = c * sz → Cl w0 (⟨g, cur, e⟩ :: L) W' → LW r m P ops Q rest (fr bs ((d, .slice (some ⟨g, 0, none⟩) k c) :: us) ds) W') : LW r m P ops Q (o :: rest) (fr bs us ds) W := by
  obtain ⟨i, z, hi, hz, hsz, hby, hzs⟩ := hE.info
  have hpos := hE.pos
  subst hsz hby
  have hold : (Builtin.firstCells i.size 0 (.slice none 0 0)).run P W.drew = .ok (#[] : Array Value) W.drew := run_firstCells_none W.drew i.size 0 0 0
  have hrun := Go.Lib.run_append_grow_zeros W t tn o.type e i z .i64 .i64 hE.u hn hi hz none 0 0 [] (by simpa using hold) k hk hpos (by omega) (by omega) (by omega) (growslice_fits (by omega) (by rw [Nat.zero_add]; exact hfit))
  rw [Nat.zero_add] at hrun
  have hG := grownCap_ge W k 0 e
  have hG2 := grownCap_le_maxLen W k 0 e (by unfold maxLen; omega)
  have hrun2 : ∀ v W', (Builtin.append_ #[t, tn] o.type #[.slice none 0 0, .int .i64 (k : Int)]).run P W = .ok v W' → (execOp (ev bs us) o).run P W = .ok (.value v) W' := fun v W' hr => by
    unfold execOp
    simp [ho, resolve, invoke, builtin, hs, hx, hr]
  refine l_run hg (hrun2 _ _ hrun) hd ?_
  have hal := hW.drew.alloc ((#[] ++ Builtin.zeroCells z.cells k ++ Builtin.zeroCells z.cells (grownCap W k 0 e - k)) : Array Value).toList e
  rw [Array.toArray_toList] at hal
  refine h W.heap.size _ _ _ hG hG2 ?_ hal
  have h3 : k * i.size + (grownCap W k 0 e - k) * i.size = grownCap W k 0 e * i.size := by rw [← Nat.add_mul]; congr 1; omega
  simp [size_zeroCells, hzs, h3]
/-- an iterator's variable holds a slice of numbers -/
structure RdV (w : World) (g : Nat) (s : Sl) (l : List Int) : Prop where
  box : w.cell? ⟨g, 0, none⟩ = some s.v
  rd : RdI w s l
theorem RdV.past {w W : World} {g : Nat} {s : Sl} {l : List Int} (h : RdV w g s l) (hb : Below w.heap.size w W) : RdV W g s l := ⟨cell_past hb h.box, h.rd.past hb⟩
theorem NewSl.newI {e : TypeId} {n : Nat} {l : List Int} {v : Value} (h : NewSl e 1 n (il l) v Bs) : ∃ s : Sl, v = s.v ∧ NewI s l Bs := by
  obtain ⟨a, c, rfl, hO⟩ := h
  exact ⟨⟨a, n, c⟩, rfl, hO.newI⟩
end
end Go.Proofs.Ytoegpalacppllaa

/- An iterator over a list that lay there. -/
namespace Go.Proofs.Ytoegpalacppllaa
open Go.RowKit Pl
open Tr Hn
set_option maxRecDepth 10000 in
/-- slices.Values[[]int,int]$1 -/
theorem j_Values {w : World} (l0 : List Int) (g : Nat) (aa : Option Addr) (an ac : Nat) (hl : l0.length ≤ 4294967296) (hP : RdV w g ⟨aa, an, ac⟩ l0) : IterJ Try.prog w 114 #[.pointer (some ⟨g, 0, none⟩)] an (fun i => #[.int .i64 (at_ l0 i)]) := by
  refine iterJ_of (lb := [.pointer (some ⟨g, 0, none⟩)]) (F := fun l => [.func (.yield l) #[] #[], .pointer (some ⟨g, 0, none⟩), undef, undef, undef, undef, undef, undef, undef, undef, undef, undef, undef, undef, undef, undef]) Try.func114 rfl (fun l => rfl) ?_
  intro r l J L0 W hY hJ hW
  have hn : an = l0.length := hP.rd.len
  refine c_seq ?_
  refine c_reg ?_
  refine l_loadW tyC35 (v := .slice aa an ac) (hP.past hW.below).box rfl rfl rfl rfl ?_
  refine l_val (r_lenSlice Try.underlying35 rfl rfl) rfl rfl ?_
  refine l_val (r_move (v := .int _ _) rfl rfl) rfl rfl ?_
  refine l_end ?_
  refine n_then ?_
  refine c_block ?_
  refine c_loop (fun (x : Nat × List Blk) (j : Nat → Value) => [.func (.yield l) #[] #[], .pointer (some ⟨g, 0, none⟩), j 2, j 3, j 4, .slice aa an ac, .int .i64 (an : Int), .int .i64 (x.1 : Int), j 8, j 9, j 10, j 11, j 12, j 13, j 14, j 15]) (fun (x : Nat × List Blk) => [] ++ x.2) (fun (x : Nat × List Blk) => x.1 ≤ an ∧ J x.1 x.2) (fun (x : Nat × List Blk) => an - x.1) (0, L0) (by kernel_rfl) hW ⟨Nat.zero_le _, hJ⟩ ?_
  intro x j W hx hW
  obtain ⟨hx, hJx⟩ := hx
  refine c_seq ?_
  refine c_reg ?_
  refine l_val (r_lssN rfl rfl rfl rfl) rfl rfl ?_
  refine l_split ?_ ?_
  · intro hc1
    replace hc1 := of_decide_eq_true hc1
    obtain ⟨b0, o0, ha, hc⟩ := hP.rd.ptr (by omega)
    simp only at ha
    subst ha
    refine l_end ?_
    refine n_then ?_
    refine c_seq ?_
    refine c_true rfl ?_
    refine c_skip ?_
    refine n_then ?_
    refine c_seq ?_
    refine c_block ?_
    refine c_seq ?_
    refine c_reg ?_
    refine l_val (r_indexAddrSl2 (n := x.1) Try.underlying35 tyC3.size rfl rfl rfl (by omega)) rfl rfl ?_
    refine l_loadF hW tyC3 (v := .int .i64 (at_ l0 (x.1))) (hc (x.1) (by omega)) rfl rfl rfl rfl ?_
    refine l_val (r_assign (v := .int _ _) rfl rfl) rfl rfl ?_
    refine l_end ?_
    refine n_then ?_
    refine c_seq ?_
    refine c_reg ?_
    refine l_val (r_move (v := .func _ _ _) rfl rfl) rfl rfl ?_
    refine l_val (r_move (v := .int _ _) rfl rfl) rfl rfl ?_
    refine l_yieldJ (hY x.1 [] x.2 W (by omega) hJx (by rw [List.append_nil]; exact hW)) rfl rfl rfl rfl rfl ?_
    intro Lc1 W hJ1 hW
    rw [List.append_nil] at hW
    refine l_val (r_not rfl rfl) rfl rfl ?_
    refine l_end ?_
    refine n_then ?_
    refine c_false rfl ?_
    refine c_skip ?_
    refine n_block ?_
    refine n_then ?_
    refine c_reg ?_
    refine l_val (r_addN (n := 1) rfl rfl rfl (by omega)) rfl rfl ?_
    refine l_val (r_move (v := .int _ _) rfl rfl) rfl rfl ?_
    refine l_end ?_
    refine n_then ?_
    exact loop_next (x.1 + 1, Lc1) (by kernel_rfl) hW ⟨by simp only; omega, hJ1⟩ (by simp only; omega)
  · intro hc1
    replace hc1 := of_decide_eq_false hc1
    have e : x.1 = an := by omega
    rw [e] at hJx
    refine l_end ?_
    refine n_then ?_
    refine c_seq ?_
    refine c_false rfl ?_
    refine c_exit ?_
    refine x_then ?_
    refine x_then ?_
    refine x_hit ?_
    refine postM_of ?_
    refine end_none rfl ?_
    exact ⟨⟨_, rfl⟩, x.2, hJx, hW⟩

end Go.Proofs.Ytoegpalacppllaa

/-
  DERIVED: THE SHELF's CONTRACTS AT THIS DUMP, IN PLAIN WORDS (tools/lay-plain.mjs out of 'TryShelf.lean', which tools/lay-shelf.mjs wrote): THE SAME DECLARATIONS UNDER THE SAME NAMES: 'import', 'namespace', 'open', 'def', 'theorem' AND NOTHING ELSE: no command of the shelf's: FOR A HAND-IN. Each laying: the table of numbers ('.._ren') and one theorem, a field a fact of the dump's own or the kernel's comparison; each contract: ONE APPLICATION.
-/
namespace Go.Proofs
open Go.Shelf
def Try.lays189_ren : Go.Shelf.Ren := ⟨fun | 189 => 113 | 125 => 135 | 257 => 134 | 128 => 151 | 129 => 152 | 294 => 143 | 295 => 144 | 296 => 145 | 297 => 146 | 298 => 147 | 299 => 148 | 216 => 105 | 300 => 149 | 301 => 150 | 328 => 157 | 329 => 158 | 330 => 159 | 331 => 160 | 332 => 161 | 215 => 127 | 343 => 162 | n => n, fun | 28 => 35 | 3 => 3 | 46 => 169 | 0 => 0 | 51 => 207 | 53 => 22 | 4 => 4 | 183 => 201 | 182 => 200 | 131 => 134 | 5 => 5 | 9 => 9 | 218 => 211 | 222 => 215 | 228 => 217 | 229 => 30 | n => n, fun | n => n⟩
theorem Try.lays189 : Go.Proofs.Lays.n189 Try.prog Try.lays189_ren := {
  mixed := by kernel_rfl
  f125 := Try.func135.trans (congrArg some (by kernel_rfl))
  f128 := Try.func151.trans (congrArg some (by kernel_rfl))
  f129 := Try.func152.trans (congrArg some (by kernel_rfl))
  f189 := Try.func113.trans (congrArg some (by kernel_rfl))
  f215 := Try.func127.trans (congrArg some (by kernel_rfl))
  f216 := Try.func105.trans (congrArg some (by kernel_rfl))
  f257 := Try.func134.trans (congrArg some (by kernel_rfl))
  f294 := Try.func143.trans (congrArg some (by kernel_rfl))
  f295 := Try.func144.trans (congrArg some (by kernel_rfl))
  f296 := Try.func145.trans (congrArg some (by kernel_rfl))
  f297 := Try.func146.trans (congrArg some (by kernel_rfl))
  f298 := Try.func147.trans (congrArg some (by kernel_rfl))
  f299 := Try.func148.trans (congrArg some (by kernel_rfl))
  f300 := Try.func149.trans (congrArg some (by kernel_rfl))
  f301 := Try.func150.trans (congrArg some (by kernel_rfl))
  f328 := Try.func157.trans (congrArg some (by kernel_rfl))
  f329 := Try.func158.trans (congrArg some (by kernel_rfl))
  f330 := Try.func159.trans (congrArg some (by kernel_rfl))
  f331 := Try.func160.trans (congrArg some (by kernel_rfl))
  f332 := Try.func161.trans (congrArg some (by kernel_rfl))
  f343 := Try.func162.trans (congrArg some (by kernel_rfl))
  t0 := Try.underlying0
  a0 := Try.isAgg0
  z0 := Try.sizeOf0
  v0 := Try.zeroValue0
  t3 := Try.underlying3
  a3 := Try.isAgg3
  z3 := Try.sizeOf3
  v3 := Try.zeroValue3
  t4 := Try.underlying4
  a4 := Try.isAgg4
  z4 := Try.sizeOf4
  v4 := Try.zeroValue4
  t5 := Try.underlying5
  a5 := Try.isAgg5
  z5 := Try.sizeOf5
  v5 := Try.zeroValue5
  t9 := Try.underlying9
  a9 := Try.isAgg9
  z9 := Try.sizeOf9
  v9 := Try.zeroValue9
  t28 := Try.underlying35
  a28 := Try.isAgg35
  z28 := Try.sizeOf35
  v28 := Try.zeroValue35
  t46 := Try.underlying169
  a46 := Try.isAgg169
  z46 := Try.sizeOf169
  v46 := Try.zeroValue169
  t51 := Try.underlying207
  a51 := Try.isAgg207
  z51 := Try.sizeOf207
  v51 := Try.zeroValue207
  t53 := Try.underlying22
  a53 := Try.isAgg22
  z53 := Try.sizeOf22
  v53 := Try.zeroValue22
  t131 := Try.underlying134
  a131 := Try.isAgg134
  z131 := Try.sizeOf134
  v131 := Try.zeroValue134
  t182 := Try.underlying200
  a182 := Try.isAgg200
  z182 := Try.sizeOf200
  v182 := Try.zeroValue200
  t183 := Try.underlying201
  a183 := Try.isAgg201
  z183 := Try.sizeOf201
  v183 := Try.zeroValue201
  t218 := Try.underlying211
  a218 := Try.isAgg211
  z218 := Try.sizeOf211
  v218 := Try.zeroValue211
  t222 := Try.underlying215
  a222 := Try.isAgg215
  z222 := Try.sizeOf215
  v222 := Try.zeroValue215
  t228 := Try.underlying217
  a228 := Try.isAgg217
  z228 := Try.sizeOf217
  v228 := Try.zeroValue217
  t229 := Try.underlying30
  a229 := Try.isAgg30
  z229 := Try.sizeOf30
  v229 := Try.zeroValue30 }
open Go.Sort Go.RowKit in
theorem Try.slices_Sort_int (blk off cap : Nat) (zs : List Int) (w : World) (hH : Holds (Value.int .i64) w blk off zs.toArray) (hblk : blk < w.heap.size) (hsz : zs.length < 4611686018427387904) :
    Calls Try.prog 113 #[.slice (some ⟨blk, off, none⟩) zs.length cap] w fun e w' =>
      e = .returned (.tuple #[]) ∧ ∃ n os, w' = grow (putRow (Value.int .i64) (Sort.ahead w n) blk off (zs.mergeSort fun x y => decide (x ≤ y)).toArray) os := Any.slices_Sort_int Try.lays189 blk off cap zs w hH hblk hsz
open Go.RowKit Go.Sort in
/-- .. and plain. (LAID: no walk: one application.) -/
theorem Try.slices_Sort_int_none (p : Option Addr) (cap : Nat) (w : World) :
    Calls Try.prog 113 #[.slice p 0 cap] w fun e w' => e = .returned (.tuple #[]) ∧ w' = w := Any.slices_Sort_int_none Try.lays189 p cap w
end Go.Proofs

/- Lists, collected and sorted by the library. -/
namespace Go.Proofs.Ytoegpalacppllaa
open Go.RowKit Pl
open Tr Hn
set_option maxRecDepth 10000 in
/-- slices.AppendSeq[[]int,int] -/
theorem g_AppendSeq (g : Nat) (aa : Option Addr) (an ac : Nat) (l : List Int) (hl : l.length ≤ 4294967296) : GivesX Try.prog 133 [.slice none 0 0, .func (.func 114) #[] #[.pointer (some ⟨g, 0, none⟩)]].toArray (fun w => RdV w g ⟨aa, an, ac⟩ l) (NewSl 3 1 an (il l)) := by
  refine givesXM_of Try.func133 rfl (bs := [.slice none 0 0, .func (.func 114) #[] #[.pointer (some ⟨g, 0, none⟩)], undef, undef, undef, undef, undef, undef, undef, undef, undef, undef, undef]) rfl ?_
  intro w hP hW
  have hn : an = l.length := hP.rd.len
  refine c_seq ?_
  refine c_reg ?_
  refine l_boxC hW (v := .slice _ _ _) rfl rfl rfl rfl rfl ?_
  intro g1 W hW
  refine l_val (r_assign (v := .slice _ _ _) rfl rfl) rfl rfl ?_
  refine l_end ?_
  refine n_then ?_
  refine c_seq ?_
  refine c_seq ?_
  refine c_reg ?_
  refine l_val (r_move (v := .func _ _ _) rfl rfl) rfl rfl ?_
  refine l_end ?_
  refine n_then ?_
  refine c_block ?_
  refine c_rangeJ (j_Values l g aa an ac hl hP) en114 rfl (fun _ => rfl) (fun i Lc => ∃ a c Bs, Lc = ⟨g1, [.slice a i c], 35⟩ :: Bs ∧ OwnSl 3 1 a i c (il (l.take i)) Bs) ⟨none, 0, [], rfl, by rw [List.take_zero]; exact OwnSl.nil 3 1⟩ hW (fun (i : Nat) => fr [.slice none 0 0, .func (.func 114) #[] #[.pointer (some ⟨g, 0, none⟩)], .pointer (some ⟨g1, 0, none⟩), undef, .slice none 0 0, .int .i64 (at_ l i), .func (.func 114) #[] #[.pointer (some ⟨g, 0, none⟩)], .int .i64 (at_ l i), undef, undef, undef, undef, undef] [] []) (fun (i : Nat) => [.slice none 0 0, .func (.func 114) #[] #[.pointer (some ⟨g, 0, none⟩)], .pointer (some ⟨g1, 0, none⟩), undef, .slice none 0 0, undef, .func (.func 114) #[] #[.pointer (some ⟨g, 0, none⟩)], .int .i64 (at_ l i), undef, undef, undef, undef, undef]) (fun _ => by kernel_rfl) ?_ ?_ ?_
  · intro lq i W
    refine c_reg ?_
    refine l_val (r_assign (v := .int _ _) rfl rfl) rfl rfl ?_
    refine l_end ?_
    refine n_then ⟨?_, rfl⟩
    exact congrArg (fun x => (fr x [] [] : Act)) (by kernel_rfl)
  · intro lq r i L Lc W hi hJ hW
    obtain ⟨a, c, Bs, rfl, hO⟩ := hJ
    replace hW := (show Cl _ (_ :: (Bs ++ L)) _ from hW).perm (List.Perm.cons _ List.perm_append_comm)
    refine c_block ?_
    refine c_reg ?_
    refine l_loadC hW 0 tyC35 rfl rfl rfl rfl rfl rfl ?_
    refine l_val (r_move (v := .int _ _) rfl rfl) rfl rfl ?_
    refine l_buildSliceF hW (bsl35_1_0 _) rfl rfl rfl rfl ?_
    intro gb W hW
    refine l_appendB tyE35 (L := ⟨gb, _, _⟩ :: ⟨g1, _, _⟩ :: L) hO hW 0 (N := i + 1) rfl rfl rfl rfl rfl rfl rfl rfl (by simp [Value.oneCell']) (by unfold maxLen; omega) (by omega) ?_
    intro a1 c1 Bs1 W hO1 hW
    replace hO1 := hO1.castx rfl (xs' := il (l.take (i + 1))) (il_snoc (by omega))
    refine l_storeC hW 1 tyC35 (v := .slice _ _ _) rfl rfl rfl rfl rfl rfl (by first | rfl | omega | (simp; done) | (simp; omega)) rfl ?_
    intro W hW
    refine l_end ?_
    refine n_block ?_
    exact ⟨rfl, _, ⟨a1, c1, Bs1, rfl, hO1⟩, (show Cl _ (_ :: (L ++ Bs1)) _ from hW.drop 1).perm (List.Perm.cons _ List.perm_append_comm)⟩
  · intro D r Lc W hDb hJ hW hD
    obtain ⟨a, c, Bs, rfl, hO⟩ := hJ
    rw [List.take_of_length_le (by omega)] at hO
    refine n_block ?_
    refine n_then ?_
    refine c_seq ?_
    refine c_reg ?_
    refine l_loadC hW 0 tyC35 rfl rfl rfl rfl rfl rfl ?_
    refine l_val (r_assign (v := .slice _ _ _) rfl rfl) rfl rfl ?_
    refine l_end ?_
    refine n_then ?_
    refine c_ret ?_
    refine r_mark hW hDb hD ?_
    intro r W hW
    refine ret_tmp (v := .slice _ _ _) rfl rfl ?_
    exact ⟨_, _, rfl, ⟨a, c, rfl, hO⟩, (show Cl _ (_ :: Bs) _ from hW).tobase.drop 1⟩

set_option maxRecDepth 10000 in
/-- slices.Collect[int] -/
theorem g_Collect (g : Nat) (aa : Option Addr) (an ac : Nat) (l : List Int) (hl : l.length ≤ 4294967296) : GivesX Try.prog 112 [.func (.func 114) #[] #[.pointer (some ⟨g, 0, none⟩)]].toArray (fun w => RdV w g ⟨aa, an, ac⟩ l) (NewSl 3 1 an (il l)) := by
  refine givesX_of Try.func112 rfl (bs := [.func (.func 114) #[] #[.pointer (some ⟨g, 0, none⟩)], undef, undef, undef, undef]) rfl ?_
  intro w hP hW
  refine c_seq ?_
  refine c_reg ?_
  refine l_val (r_assign (v := .slice _ _ _) rfl rfl) rfl rfl ?_
  refine l_end ?_
  refine n_then ?_
  refine c_seq ?_
  refine c_reg ?_
  refine l_val (r_move (v := .func _ _ _) rfl rfl) rfl rfl ?_
  refine l_callX hW (g_AppendSeq g aa an ac l hl) en133 (hP.past hW.below) rfl rfl rfl rfl ?_
  rintro _ Bs W ⟨a1, c1, rfl, hO⟩ hW
  refine l_val (r_assign (v := .slice _ _ _) rfl rfl) rfl rfl ?_
  refine l_end ?_
  refine n_then ?_
  refine c_ret ?_
  refine ret_tmp (v := .slice _ _ _) rfl rfl ?_
  exact ⟨_, _, rfl, ⟨a1, c1, rfl, hO⟩, hW⟩

theorem sortsI : SortsI Try.prog 113 := ⟨Try.slices_Sort_int, Try.slices_Sort_int_none⟩
set_option maxRecDepth 10000 in
/-- slices.Sorted[int] -/
theorem g_Sorted (g : Nat) (aa : Option Addr) (an ac : Nat) (l : List Int) (hl : l.length ≤ 4294967296) : GivesX Try.prog 81 [.func (.func 114) #[] #[.pointer (some ⟨g, 0, none⟩)]].toArray (fun w => RdV w g ⟨aa, an, ac⟩ l) (NewSl 3 1 an (il (sortI l))) := by
  refine givesX_of Try.func81 rfl (bs := [.func (.func 114) #[] #[.pointer (some ⟨g, 0, none⟩)], undef, undef, undef, undef, undef, undef, undef, undef]) rfl ?_
  intro w hP hW
  have hn : an = l.length := hP.rd.len
  refine c_seq ?_
  refine c_reg ?_
  refine l_val (r_assign (v := .slice _ _ _) rfl rfl) rfl rfl ?_
  refine l_end ?_
  refine n_then ?_
  refine c_seq ?_
  refine c_reg ?_
  refine l_val (r_move (v := .func _ _ _) rfl rfl) rfl rfl ?_
  refine l_callX hW (g_Collect g aa an ac l hl) en112 (hP.past hW.below) rfl rfl rfl rfl ?_
  rintro _ Bs W ⟨a1, c1, rfl, hO⟩ hW
  refine l_val (r_assign (v := .slice _ _ _) rfl rfl) rfl rfl ?_
  refine l_end ?_
  refine n_then ?_
  refine c_seq ?_
  refine c_reg ?_
  refine l_val (r_move (v := .slice _ _ _) rfl rfl) rfl rfl ?_
  refine l_sort sortsI (L := []) hO hW (by omega) en113 rfl rfl rfl rfl ?_
  intro Bs1 W hO1 hW
  refine l_end ?_
  refine n_then ?_
  refine c_seq ?_
  refine c_reg ?_
  refine l_val (r_move (v := .slice _ _ _) rfl rfl) rfl rfl ?_
  refine l_val (r_assign (v := .slice _ _ _) rfl rfl) rfl rfl ?_
  refine l_end ?_
  refine n_then ?_
  refine c_ret ?_
  refine ret_tmp (v := .slice _ _ _) rfl rfl ?_
  exact ⟨_, _, rfl, ⟨a1, c1, rfl, hO1⟩, hW⟩

set_option maxRecDepth 10000 in
/-- slices.Grow[[]int,int] -/
theorem g_Grow (n : Nat) (hn : n ≤ 17592186043904) : GivesX Try.prog 115 [.slice none 0 0, .int .i64 (n : Int)].toArray (fun _ => True) (NewSl 3 1 0 []) := by
  refine givesX_of Try.func115 rfl (bs := [.slice none 0 0, .int .i64 (n : Int), undef, undef, undef, undef, undef, undef, undef, undef, undef, undef, undef, undef, undef, undef, undef, undef, undef, undef, undef, undef, undef, undef, undef, undef, undef]) rfl ?_
  intro w hP hW
  refine c_seq ?_
  refine c_reg ?_
  refine l_val (r_assign (v := .slice _ _ _) rfl rfl) rfl rfl ?_
  refine l_end ?_
  refine n_then ?_
  refine c_seq ?_
  refine c_seq ?_
  refine c_reg ?_
  refine l_val (r_move (v := .int _ _) rfl rfl) rfl rfl ?_
  refine l_val (r_lssN (b := false) (n := 0) rfl rfl rfl (decide_eq_false (by omega))) rfl rfl ?_
  refine l_end ?_
  refine n_then ?_
  refine c_false rfl ?_
  refine c_skip ?_
  refine n_then ?_
  refine c_seq ?_
  refine c_seq ?_
  refine c_reg ?_
  refine l_val (r_move (v := .int _ _) rfl rfl) rfl rfl ?_
  refine l_val (r_move (v := .slice _ _ _) rfl rfl) rfl rfl ?_
  refine l_val (r_cap Try.underlying35 rfl rfl) rfl rfl ?_
  refine l_val (r_move (v := .slice _ _ _) rfl rfl) rfl rfl ?_
  refine l_val (r_lenSlice Try.underlying35 rfl rfl) rfl rfl ?_
  refine l_val (r_subN rfl rfl rfl (by omega) (by omega)) rfl rfl ?_
  refine l_val (r_subN rfl rfl rfl (by omega) (by omega)) rfl rfl ?_
  refine l_val (r_assign (v := .int _ _) rfl rfl) rfl rfl ?_
  refine l_end ?_
  refine n_then ?_
  refine c_seq ?_
  refine c_reg ?_
  refine l_val (r_move (v := .int _ _) rfl rfl) rfl rfl ?_
  refine l_val (r_gtrN (n := 0) rfl rfl rfl rfl) rfl rfl ?_
  refine l_split ?_ ?_
  · intro hc1
    replace hc1 := of_decide_eq_true hc1
    refine l_end ?_
    refine n_then ?_
    refine c_true rfl ?_
    refine c_reg ?_
    refine l_val (r_move (v := .slice _ _ _) rfl rfl) rfl rfl ?_
    refine l_val (r_move (v := .slice _ _ _) rfl rfl) rfl rfl ?_
    refine l_val (r_cap Try.underlying35 rfl rfl) rfl rfl ?_
    refine l_val (r_sliceTo (h := 0) Try.underlying35 tyC3.size rfl rfl rfl (by omega) (fun _ => rfl)) rfl rfl ?_
    refine l_val (r_move (v := .int _ _) rfl rfl) rfl rfl ?_
    refine l_appendZ (k := n) tyE35 Try.underlying3 hW (by omega) (by omega) (by omega) rfl rfl rfl rfl rfl ?_
    intro gn cn cur W h1 h2 h3 hW
    refine l_val (r_move (v := .slice _ _ _) rfl rfl) rfl rfl ?_
    refine l_val (r_lenSlice Try.underlying35 rfl rfl) rfl rfl ?_
    refine l_val (r_sliceTo (h := 0) Try.underlying35 tyC3.size rfl rfl rfl (by omega) (fun h => by cases h)) rfl rfl ?_
    refine l_val (r_assign (v := .slice _ _ _) rfl rfl) rfl rfl ?_
    refine l_end ?_
    refine n_then ?_
    refine c_seq ?_
    refine c_reg ?_
    refine l_val (r_move (v := .slice _ _ _) rfl rfl) rfl rfl ?_
    refine l_val (r_assign (v := .slice _ _ _) rfl rfl) rfl rfl ?_
    refine l_end ?_
    refine n_then ?_
    refine c_ret ?_
    refine ret_tmp (v := .slice _ _ _) rfl rfl ?_
    exact ⟨_, _, rfl, ⟨_, _, rfl, ⟨by simp, .inr ⟨gn, cur, rfl, rfl, by omega, h2, by omega, by simp⟩⟩⟩, hW⟩
  · intro hc1
    replace hc1 := of_decide_eq_false hc1
    refine l_end ?_
    refine n_then ?_
    refine c_false rfl ?_
    refine c_skip ?_
    refine n_then ?_
    refine c_seq ?_
    refine c_reg ?_
    refine l_val (r_move (v := .slice _ _ _) rfl rfl) rfl rfl ?_
    refine l_val (r_assign (v := .slice _ _ _) rfl rfl) rfl rfl ?_
    refine l_end ?_
    refine n_then ?_
    refine c_ret ?_
    refine ret_tmp (v := .slice _ _ _) rfl rfl ?_
    exact ⟨_, _, rfl, ⟨_, _, rfl, OwnSl.nil 3 1⟩, hW⟩

end Go.Proofs.Ytoegpalacppllaa

/- An iterator over a list. -/
namespace Go.Proofs.Ytoegpalacppllaa
open Go.RowKit Pl
open Tr Hn
set_option maxRecDepth 10000 in
/-- slices.Values[[]int,int] -/
theorem g_Values (aa : Option Addr) (an ac : Nat) : GivesX Try.prog 82 [.slice aa an ac].toArray (fun _ => True) (fun v Bs => ∃ g, v = .func (.func 114) #[] #[.pointer (some ⟨g, 0, none⟩)] ∧ Bs = [⟨g, [.slice aa an ac], 35⟩]) := by
  refine givesX_of Try.func82 rfl (bs := [.slice aa an ac, undef, undef, undef]) rfl ?_
  intro w hP hW
  refine c_seq ?_
  refine c_reg ?_
  refine l_boxC hW (v := .slice _ _ _) rfl rfl rfl rfl rfl ?_
  intro g1 W hW
  refine l_val (r_assign (v := .nilFunc) rfl rfl) rfl rfl ?_
  refine l_end ?_
  refine n_then ?_
  refine c_seq ?_
  refine c_reg ?_
  refine l_val (r_closure (vs := [.pointer (some ⟨g1, 0, none⟩)]) rfl rfl) rfl rfl ?_
  refine l_val (r_assign (v := .func _ _ _) rfl rfl) rfl rfl ?_
  refine l_end ?_
  refine n_then ?_
  refine c_ret ?_
  refine ret_tmp (v := .func _ _ _) rfl rfl ?_
  exact ⟨_, _, rfl, ⟨g1, rfl, rfl⟩, hW⟩

end Go.Proofs.Ytoegpalacppllaa

/- Merged lists, by the program. -/
namespace Go.Proofs.Ytoegpalacppllaa
open Go.RowKit Pl
open Tr Hn
set_option maxRecDepth 10000 in
/-- slices.Concat[[]int,int] -/
theorem g_Concat (aa : Option Addr) (an ac : Nat) (cs : List Sl) (gs : List (List Int)) (hm : sumL gs ≤ 4294967296) (han : an ≤ 4294967296) : GivesX Try.prog 83 [.slice aa an ac].toArray (fun w => RdG w ⟨aa, an, ac⟩ cs gs) (NewSl 3 1 (sumL gs) (il gs.flatten)) := by
  refine givesX_of Try.func83 rfl (bs := [.slice aa an ac, undef, undef, undef, undef, undef, undef, undef, undef, undef, undef, undef, undef, undef, undef, undef, undef, undef, undef, undef, undef, undef, undef, undef, undef, undef, undef, undef, undef, undef, undef, undef, undef, undef, undef, undef]) rfl ?_
  intro w hP hW
  have hn : an = gs.length := by have h1 := hP.n; have h2 := hP.len; simp only at h1; omega
  refine c_seq ?_
  refine c_reg ?_
  refine l_val (r_assign (v := .slice _ _ _) rfl rfl) rfl rfl ?_
  refine l_end ?_
  refine n_then ?_
  refine c_seq ?_
  refine c_reg ?_
  refine l_val (r_assign (v := .int _ _) rfl rfl) rfl rfl ?_
  refine l_end ?_
  refine n_then ?_
  refine c_seq ?_
  refine c_seq ?_
  refine c_reg ?_
  refine l_val (r_move (v := .slice _ _ _) rfl rfl) rfl rfl ?_
  refine l_val (r_lenSlice Try.underlying69 rfl rfl) rfl rfl ?_
  refine l_val (r_move (v := .int _ _) rfl rfl) rfl rfl ?_
  refine l_end ?_
  refine n_then ?_
  refine c_block ?_
  refine c_loop (fun (x : Nat × Nat) (j : Nat → Value) => [.slice aa an ac, j 1, j 2, .int .i64 (x.2 : Int), j 4, j 5, j 6, j 7, j 8, .slice aa an ac, .int .i64 (an : Int), .int .i64 (x.1 : Int), j 12, j 13, j 14, j 15, j 16, j 17, j 18, j 19, j 20, j 21, j 22, j 23, j 24, j 25, j 26, j 27, j 28, j 29, j 30, j 31, j 32, j 33, j 34, j 35]) (fun (x : Nat × Nat) => []) (fun (x : Nat × Nat) => x.1 ≤ an ∧ x.2 = sumL (gs.take x.1)) (fun (x : Nat × Nat) => an - x.1) (0, 0) (by kernel_rfl) hW ⟨Nat.zero_le _, rfl⟩ ?_
  intro x j W hx hW
  obtain ⟨i, m⟩ := x
  obtain ⟨hx, hm2⟩ := hx
  simp only at hx hm2
  have hle := sumL_take_le gs i
  refine c_seq ?_
  refine c_reg ?_
  refine l_val (r_lssN rfl rfl rfl rfl) rfl rfl ?_
  refine l_split ?_ ?_
  · intro hc1
    replace hc1 := of_decide_eq_true hc1
    obtain ⟨b0, o0, ha⟩ := hP.ptr (by omega)
    subst ha
    obtain ⟨s, l, e, f, hc, hr⟩ := hP.get (i := i) (by omega)
    have hsl := hr.len
    have htk := sumL_take_le gs (i + 1)
    rw [sumL_take f] at htk
    refine l_end ?_
    refine n_then ?_
    refine c_seq ?_
    refine c_true rfl ?_
    refine c_skip ?_
    refine n_then ?_
    refine c_seq ?_
    refine c_block ?_
    refine c_seq ?_
    refine c_reg ?_
    refine l_val (r_indexAddrSl2 (n := i) Try.underlying69 tyC35.size rfl rfl rfl (by omega)) rfl rfl ?_
    refine l_loadF hW tyC35 (v := s.v) hc rfl rfl rfl rfl ?_
    refine l_val (r_assign (v := .slice _ _ _) rfl rfl) rfl rfl ?_
    refine l_end ?_
    refine n_then ?_
    refine c_seq ?_
    refine c_reg ?_
    refine l_val (r_move (v := .int _ _) rfl rfl) rfl rfl ?_
    refine l_val (r_move (v := .slice _ _ _) rfl rfl) rfl rfl ?_
    refine l_val (r_lenSlice Try.underlying35 rfl rfl) rfl rfl ?_
    refine l_val (r_addN rfl rfl rfl (by omega)) rfl rfl ?_
    refine l_val (r_assign (v := .int _ _) rfl rfl) rfl rfl ?_
    refine l_end ?_
    refine n_then ?_
    refine c_seq ?_
    refine c_reg ?_
    refine l_val (r_move (v := .int _ _) rfl rfl) rfl rfl ?_
    refine l_val (r_lssN (b := false) (n := 0) rfl rfl rfl (decide_eq_false (by omega))) rfl rfl ?_
    refine l_end ?_
    refine n_then ?_
    refine c_false rfl ?_
    refine c_skip ?_
    refine n_block ?_
    refine n_then ?_
    refine c_reg ?_
    refine l_val (r_addN (n := 1) rfl rfl rfl (by omega)) rfl rfl ?_
    refine l_val (r_move (v := .int _ _) rfl rfl) rfl rfl ?_
    refine l_end ?_
    refine n_then ?_
    exact loop_next (i + 1, m + s.n) (by kernel_rfl) hW ⟨by simp only; omega, by simp only; rw [sumL_take f]; omega⟩ (by simp only; omega)
  · intro hc1
    replace hc1 := of_decide_eq_false hc1
    have e0 : i = an := by omega
    rw [e0, List.take_of_length_le (by omega)] at hm2
    refine l_end ?_
    refine n_then ?_
    refine c_seq ?_
    refine c_false rfl ?_
    refine c_exit ?_
    refine x_then ?_
    refine x_then ?_
    refine x_hit ?_
    refine n_then ?_
    refine c_seq ?_
    refine c_reg ?_
    refine l_val (r_move (v := .int _ _) rfl rfl) rfl rfl ?_
    refine l_callX hW (g_Grow m (by omega)) en115 trivial rfl rfl rfl rfl ?_
    rintro _ Bs W ⟨a0, c0, rfl, hO0⟩ hW
    refine l_val (r_assign (v := .slice _ _ _) rfl rfl) rfl rfl ?_
    refine l_end ?_
    refine n_then ?_
    refine c_seq ?_
    refine c_seq ?_
    refine c_reg ?_
    refine l_val (r_move (v := .slice _ _ _) rfl rfl) rfl rfl ?_
    refine l_val (r_lenSlice Try.underlying69 rfl rfl) rfl rfl ?_
    refine l_val (r_move (v := .int _ _) rfl rfl) rfl rfl ?_
    refine l_end ?_
    refine n_then ?_
    refine c_block ?_
    refine c_loop (fun (y : Nat × Nat × Option Addr × Nat × List Blk) (j : Nat → Value) => [.slice aa an ac, j 1, j 2, j 3, j 4, j 5, .slice y.2.2.1 y.2.1 y.2.2.2.1, j 7, j 8, .slice aa an ac, .int .i64 (an : Int), j 11, .bool false, j 13, j 14, j 15, j 16, j 17, j 18, j 19, j 20, j 21, j 22, j 23, .slice a0 0 c0, .slice aa an ac, .int .i64 (an : Int), .int .i64 (y.1 : Int), j 28, j 29, j 30, j 31, j 32, j 33, j 34, j 35]) (fun (y : Nat × Nat × Option Addr × Nat × List Blk) => [] ++ y.2.2.2.2) (fun (y : Nat × Nat × Option Addr × Nat × List Blk) => y.1 ≤ an ∧ OwnSl 3 1 y.2.2.1 y.2.1 y.2.2.2.1 (il (gs.take y.1).flatten) y.2.2.2.2) (fun (y : Nat × Nat × Option Addr × Nat × List Blk) => an - y.1) (0, 0, a0, c0, Bs) (by kernel_rfl) hW ⟨Nat.zero_le _, hO0⟩ ?_
    intro y j W hx hW
    obtain ⟨hy, hO⟩ := hx
    have hyn := hO.1
    rw [il_len, ← sumL_flat] at hyn
    refine c_seq ?_
    refine c_reg ?_
    refine l_val (r_lssN rfl rfl rfl rfl) rfl rfl ?_
    refine l_split ?_ ?_
    · intro hc2
      replace hc2 := of_decide_eq_true hc2
      obtain ⟨b0, o0, ha⟩ := hP.ptr (by omega)
      subst ha
      obtain ⟨s, l, e, f, hc, hr⟩ := hP.get (i := y.1) (by omega)
      have hsl := hr.len
      have htk := sumL_take_le gs (y.1 + 1)
      rw [sumL_take f] at htk
      refine l_end ?_
      refine n_then ?_
      refine c_seq ?_
      refine c_true rfl ?_
      refine c_skip ?_
      refine n_then ?_
      refine c_seq ?_
      refine c_block ?_
      refine c_seq ?_
      refine c_reg ?_
      refine l_val (r_indexAddrSl2 (n := y.1) Try.underlying69 tyC35.size rfl rfl rfl (by omega)) rfl rfl ?_
      refine l_loadF hW tyC35 (v := s.v) hc rfl rfl rfl rfl ?_
      refine l_val (r_assign (v := .slice _ _ _) rfl rfl) rfl rfl ?_
      refine l_end ?_
      refine n_then ?_
      refine c_reg ?_
      refine l_val (r_move (v := .slice _ _ _) rfl rfl) rfl rfl ?_
      refine l_val (r_move (v := .slice _ _ _) rfl rfl) rfl rfl ?_
      refine l_appendR tyE35 (L := []) hO hW (hr.past hW.below).rd (N := y.2.1 + s.n) rfl rfl rfl rfl rfl rfl (by rw [il_len]; exact hsl.symm) (fun h => ⟨hr.ok.nil0 h, hr.ok.nil h⟩) (il_one _) (by unfold maxLen; omega) (by omega) ?_
      intro a1 c1 Bs1 W hO1 hW
      replace hO1 := hO1.castx rfl (xs' := il (gs.take (y.1 + 1)).flatten) (by rw [take_flat f, il_append])
      refine l_val (r_assign (v := .slice _ _ _) rfl rfl) rfl rfl ?_
      refine l_end ?_
      refine n_block ?_
      refine n_then ?_
      refine c_reg ?_
      refine l_val (r_addN (n := 1) rfl rfl rfl (by omega)) rfl rfl ?_
      refine l_val (r_move (v := .int _ _) rfl rfl) rfl rfl ?_
      refine l_end ?_
      refine n_then ?_
      exact loop_next (y.1 + 1, y.2.1 + s.n, a1, c1, Bs1) (by kernel_rfl) hW ⟨by simp only; omega, hO1⟩ (by simp only; omega)
    · intro hc2
      replace hc2 := of_decide_eq_false hc2
      have e : y.1 = an := by omega
      rw [e, List.take_of_length_le (by omega)] at hO
      have e2 : y.2.1 = sumL gs := by rw [e, List.take_of_length_le (by omega)] at hyn; omega
      rw [e2] at hO
      refine l_end ?_
      refine n_then ?_
      refine c_seq ?_
      refine c_false rfl ?_
      refine c_exit ?_
      refine x_then ?_
      refine x_then ?_
      refine x_hit ?_
      refine n_then ?_
      refine c_seq ?_
      refine c_reg ?_
      refine l_val (r_move (v := .slice _ _ _) rfl rfl) rfl rfl ?_
      refine l_val (r_assign (v := .slice _ _ _) rfl rfl) rfl rfl ?_
      refine l_end ?_
      refine n_then ?_
      refine c_ret ?_
      refine ret_tmp (v := .slice _ _ _) rfl rfl ?_
      exact ⟨_, _, rfl, ⟨_, _, by rw [e2], hO⟩, hW⟩

set_option maxRecDepth 10000 in
/-- headend/trace.merged[int] -/
theorem g_merged (aa : Option Addr) (an ac : Nat) (cs : List Sl) (gs : List (List Int)) (hm : sumL gs ≤ 4294967296) (han : an ≤ 4294967296) : GivesX Try.prog 49 [.slice aa an ac].toArray (fun w => RdG w ⟨aa, an, ac⟩ cs gs) (fun v Bs => ∃ s : Sl, v = s.v ∧ NewI s (sortI gs.flatten) Bs) := by
  refine givesX_of Try.func49 rfl (bs := [.slice aa an ac, undef, undef, undef, undef, undef, undef]) rfl ?_
  intro w hP hW
  refine c_seq ?_
  refine c_reg ?_
  refine l_val (r_assign (v := .slice _ _ _) rfl rfl) rfl rfl ?_
  refine l_end ?_
  refine n_then ?_
  refine c_seq ?_
  refine c_reg ?_
  refine l_val (r_move (v := .slice _ _ _) rfl rfl) rfl rfl ?_
  refine l_callX hW (g_Concat aa an ac cs gs hm han) en83 (hP.past hW.below) rfl rfl rfl rfl ?_
  rintro _ Bs W ⟨a1, c1, rfl, hO⟩ hW
  refine l_callX hW (g_Values a1 (sumL gs) c1) en82 trivial rfl rfl rfl rfl ?_
  rintro _ _ W ⟨g, rfl, rfl⟩ hW
  refine l_callX hW (g_Sorted g a1 (sumL gs) c1 gs.flatten (by rw [← sumL_flat]; exact hm)) en81 ⟨by rw [cell_at (hW.holds ⟨g, [.slice a1 (sumL gs) c1], 35⟩ (by simp))]; rfl, hO.rep.at hW (List.sublist_append_left Bs _)⟩ rfl rfl rfl rfl ?_
  rintro _ Bs2 W ⟨a2, c2, rfl, hO2⟩ hW
  refine l_val (r_assign (v := .slice _ _ _) rfl rfl) rfl rfl ?_
  refine l_end ?_
  refine n_then ?_
  refine c_ret ?_
  refine ret_tmp (v := .slice _ _ _) rfl rfl ?_
  exact ⟨_, Bs2, rfl, ⟨_, rfl, hO2.newI⟩, hW.sub (List.sublist_append_right _ _)⟩

end Go.Proofs.Ytoegpalacppllaa

/- Parts of slices of elements of many cells; an append of a block to itself; clearing. No function of the program is in sight here. -/
namespace Go.Proofs.Ytoegpalacppllaa
open Go.RowKit Pl Tr Hn

section
variable {P : Program} {ops : Array Oper} {Q : Exit → Act → World → Prop} {bs : List Value} {us : List (Nat × Value)} {ds : List Deferred} {w0 : Base} {W W' : World} {rest : List Oper} {o : Oper} {L Bs : List Blk} {d : Nat} {v : Value} {r : Option (Option Nat)} {m : Nat}
theorem r_sliceToN {t e sz h n c : Nat} {ad : Addr} {k : IntKind} {x y : Operand} (ht : P.underlying t = some (.slice e)) (hz : ∀ w, (sizeOf e).run P w = .ok sz w) (ho : o.op = .slice t x none (some y) none)
    (hx : ev bs us x = .slice (some ad) n c) (hy : ev bs us y = .int k (h : Int)) (hn : h ≤ c) : Runs P bs us o (.slice (some ad) h c) := fun w => by
  have h0 : ad.add 0 = ad := by unfold Addr.add; cases ad; simp
  unfold execOp
  simp [ho, hx, hy, Instr.sliceAt, Instr.slice, asIntOf, run_underlying ht, hz, h0, Instr.sliceBounds, Instr.sliceBound, hn]
theorem r_sliceFromN {t e sz l n c g i j : Nat} {k : IntKind} {x y : Operand} (ht : P.underlying t = some (.slice e)) (hz : ∀ w, (sizeOf e).run P w = .ok sz w) (ho : o.op = .slice t x (some y) none none)
    (hx : ev bs us x = .slice (some ⟨g, i, none⟩) n c) (hy : ev bs us y = .int k (l : Int)) (hn : l ≤ n) (hj : (if c = l then i else i + l * sz) = j) : Runs P bs us o (.slice (some ⟨g, j, none⟩) (n - l) (c - l)) := fun w => by
  subst hj
  unfold execOp
  by_cases hc : c = l
  · simp [ho, hx, hy, Instr.sliceAt, Instr.slice, asIntOf, run_underlying ht, hz, Instr.sliceBounds, Instr.sliceBound, hn, hc]
  · simp [ho, hx, hy, Instr.sliceAt, Instr.slice, asIntOf, run_underlying ht, hz, Addr.add_lit, Instr.sliceBounds, Instr.sliceBound, hn, hc]
theorem r_sliceN {t e sz l h n c g i j : Nat} {k k' : IntKind} {x y z : Operand} (ht : P.underlying t = some (.slice e)) (hz : ∀ w, (sizeOf e).run P w = .ok sz w) (ho : o.op = .slice t x (some y) (some z) none)
    (hx : ev bs us x = .slice (some ⟨g, i, none⟩) n c) (hy : ev bs us y = .int k (l : Int)) (hh : ev bs us z = .int k' (h : Int)) (hl : l ≤ h) (hn : h ≤ c) (hj : (if c = l then i else i + l * sz) = j) : Runs P bs us o (.slice (some ⟨g, j, none⟩) (h - l) (c - l)) := fun w => by
  subst hj
  unfold execOp
  by_cases hc : c = l
  · subst hc
    obtain rfl : h = c := by omega
    simp [ho, hx, hy, hh, Instr.sliceAt, Instr.slice, asIntOf, run_underlying ht, hz, Instr.sliceBounds, Instr.sliceBound]
  · simp [ho, hx, hy, hh, Instr.sliceAt, Instr.slice, asIntOf, run_underlying ht, hz, Addr.add_lit, Instr.sliceBounds, Instr.sliceBound, hn, hc, hl]
theorem r_slice3 {t e sz l h q n c g i j : Nat} {k k' k2 : IntKind} {x y z u : Operand} (ht : P.underlying t = some (.slice e)) (hz : ∀ w, (sizeOf e).run P w = .ok sz w) (ho : o.op = .slice t x (some y) (some z) (some u))
    (hx : ev bs us x = .slice (some ⟨g, i, none⟩) n c) (hy : ev bs us y = .int k (l : Int)) (hh : ev bs us z = .int k' (h : Int)) (hq : ev bs us u = .int k2 (q : Int)) (hl : l ≤ h) (hn : h ≤ q) (hc : q ≤ c) (hj : (if q = l then i else i + l * sz) = j) : Runs P bs us o (.slice (some ⟨g, j, none⟩) (h - l) (q - l)) := fun w => by
  subst hj
  unfold execOp
  by_cases hc' : q = l
  · subst hc'
    obtain rfl : h = q := by omega
    simp [ho, hx, hy, hh, hq, Instr.sliceAt, Instr.slice, asIntOf, run_underlying ht, hz, Instr.sliceBounds, Instr.sliceBound, hc]
  · simp [ho, hx, hy, hh, hq, Instr.sliceAt, Instr.slice, asIntOf, run_underlying ht, hz, Addr.add_lit, Instr.sliceBounds, Instr.sliceBound, hn, hc, hc', hl]

/-- a load of two cells that lay there -/
theorem l_loadF2 (hW : Cl w0 L W) {t : TypeId} (ht : TyA P t 2) {x : Operand} {u0 u1 : Value} {b i : Nat} (h0 : w0.w.cell? ⟨b, i + 0, none⟩ = some u0) (h1 : w0.w.cell? ⟨b, i + 1, none⟩ = some u1) (hg : o.guard = none) (ho : o.op = .load t x) (hx : ev bs us x = .pointer (some ⟨b, i, none⟩)) (hd : o.dst = some d)
    (h : LW r m P ops Q rest (fr bs ((d, .agg [u0, u1].toArray) :: us) ds) W) : LW r m P ops Q (o :: rest) (fr bs us ds) W := by
  refine l_run hg ?_ hd h
  have hl : (loadCells ⟨b, i, none⟩ [u0, u1].length).run P W = .ok [u0, u1].toArray W := run_loadCells_list (P := P) W ⟨b, i, none⟩ [u0, u1] (fun j v hv => by
    rw [Addr.add_lit]
    match j with
    | 0 => simp only [List.getElem?_cons_zero, Option.some.injEq] at hv; subst hv; exact cell_past hW.below h0
    | 1 => simp only [List.getElem?_cons_succ, List.getElem?_cons_zero, Option.some.injEq] at hv; subst hv; exact cell_past hW.below h1
    | j + 2 => simp at hv)
  unfold execOp
  simp only [ho, hx, Instr.loadAt, Instr.sureAddr, Sem.run_bind, Sem.run_pure, Result.andThen_ok]
  simp only [List.length_cons, List.length_nil] at hl
  simp [loadVar, ht.agg W, ht.size W, hl]
/-- a part of a block is appended to the block's beginning -/
theorem l_appendIn {t e sz bytes g n c k c2 j : Nat} {cur : List Value} (hE : TyE P t e sz bytes) (hW : Cl w0 (⟨g, cur, e⟩ :: L) W) {s x : Operand} (hg : o.guard = none) (ho : o.op = .call { callee := .builtin .append, args := #[s, x], argTypes := #[t, t] }) (hs : ev bs us s = .slice (some ⟨g, 0, none⟩) n c) (hx : ev bs us x = .slice (some ⟨g, j, none⟩) k c2) (hd : o.dst = some d)
    (hroom : n + k ≤ c) (hcl : cur.length = c * sz) (hj : k = 0 ∨ j + k * sz ≤ cur.length) (h1 : ∀ u ∈ (cur.drop j).take (k * sz), u.oneCell' = true)
    (h : ∀ W', Cl w0 (⟨g, cur.take (n * sz) ++ (cur.drop j).take (k * sz) ++ cur.drop (n * sz + k * sz), e⟩ :: L) W' → LW r m P ops Q rest (fr bs ((d, .slice (some ⟨g, 0, none⟩) (n + k) c) :: us) ds) W') : LW r m P ops Q (o :: rest) (fr bs us ds) W := by
  obtain ⟨i, z, hi, hz, hsz, hby, hzs⟩ := hE.info
  subst hsz
  have hgW : W.heap[g]? = some (.cells cur.toArray e (0, 0)) := hW.holds ⟨g, cur, e⟩ (by simp)
  have hnl : ((cur.drop j).take (k * i.size)).length = k * i.size := by
    rw [List.length_take, List.length_drop]
    rcases hj with rfl | hj
    · simp
    · omega
  have hfit : n * i.size + ((cur.drop j).take (k * i.size)).length ≤ cur.toArray.size := by
    rw [hnl, ← Nat.add_mul]; simp only [List.size_toArray]; rw [hcl]; exact Nat.mul_le_mul_right _ hroom
  have hr := run_append_room (P := P) W t o.type e i hE.u hi g n c cur.toArray hgW ⟨g, j, none⟩ k c2 ((cur.drop j).take (k * i.size)) hnl (fun a u hu => by
    rw [cells_of hgW]
    rw [List.getElem?_take] at hu
    split at hu
    · rwa [List.getElem?_drop] at hu
    · cases hu) h1 hroom hfit
  rw [hnl] at hr
  exact l_run hg (run_append_op ho hs hx hr) hd (h _ (hW.setRow (x := ⟨g, cur, e⟩) 0 rfl _))
/-- a part of a block is cleared -/
theorem l_clear {t e sz g k c2 j : Nat} {z : Value} {cur : List Value} (ht : P.underlying t = some (.slice e)) (hz : TyZ P e z) (hzs : z.cells.size = sz) (hz1 : ∀ u ∈ z.cells.toList, u.oneCell' = true) (hpos : 0 < sz) (hW : Cl w0 (⟨g, cur, e⟩ :: L) W) {x : Operand} (hg : o.guard = none) (ho : o.op = .call { callee := .builtin .clear, args := #[x], argTypes := #[t] }) (hx : ev bs us x = .slice (some ⟨g, j, none⟩) k c2) (hd : o.dst = none)
    (hk : 0 < k) (hj : j + k * sz ≤ cur.length) (h : ∀ zs W', zs.length = k * sz → Cl w0 (⟨g, cur.take j ++ zs ++ cur.drop (j + k * sz), e⟩ :: L) W' → LW r m P ops Q rest (fr bs us ds) W') : LW r m P ops Q (o :: rest) (fr bs us ds) W := by
  have hgW : W.heap[g]? = some (.cells cur.toArray e (0, 0)) := hW.holds ⟨g, cur, e⟩ (by simp)
  have hl : (Builtin.zeroCells z.cells k).toList.length = k * sz := by rw [Array.length_toList, size_zeroCells, hzs]
  have h1 : ∀ u ∈ (Builtin.zeroCells z.cells k).toList, u.oneCell' = true := by
    intro u hu
    have hu' : u ∈ Builtin.zeroCells z.cells k := by simpa using hu
    unfold Builtin.zeroCells at hu'
    obtain ⟨a, _, rfl⟩ := Array.mem_map.1 hu'
    have hlt : a % z.cells.size < z.cells.size := Nat.mod_lt _ (by omega)
    rw [getElem!_pos z.cells _ hlt]
    exact hz1 _ (by simp)
  have hst := run_storeCells_at (P := P) g j e (Builtin.zeroCells z.cells k).toList 0 cur.toArray W hgW (by rw [hl]; simp; omega) h1
  simp only [Nat.add_zero, hl] at hst
  obtain ⟨k', rfl⟩ : ∃ k', k = k' + 1 := ⟨k - 1, by omega⟩
  have hrun : (Builtin.clear_ #[t] o.type #[.slice (some ⟨g, j, none⟩) (k' + 1) c2]).run P W = .ok (.tuple #[]) (W.setRow g (cur.take j ++ (Builtin.zeroCells z.cells (k' + 1)).toList ++ cur.drop (j + (k' + 1) * sz)).toArray) := by
    simp [Builtin.clear_, run_underlying ht, hz W, hst]
  have hex : (execOp (ev bs us) o).run P W = .ok (.value (.tuple #[])) (W.setRow g (cur.take j ++ (Builtin.zeroCells z.cells (k' + 1)).toList ++ cur.drop (j + (k' + 1) * sz)).toArray) := by
    unfold execOp
    simp [ho, resolve, invoke, builtin, hx, hrun]
  refine LW.val (wanted_none hg) (by rw [eval_ev]; exact hex) ?_
  rw [hd, put_none]
  exact h _ _ hl (hW.setRow (x := ⟨g, cur, e⟩) 0 rfl _)
end
theorem permH {α : Type} {A B X R N : List α} : (A ++ (B ++ (X ++ (R ++ N)))).Perm ((X ++ (N ++ (A ++ B))) ++ R) := by
  classical exact List.perm_iff_count.2 fun x => by simp only [List.count_append]; omega
theorem permX {α : Type} {X N R : List α} : ((X ++ N) ++ R).Perm (X ++ (R ++ N)) := by
  classical exact List.perm_iff_count.2 fun x => by simp only [List.count_append]; omega
theorem permY {α : Type} {X N R : List α} : (X ++ (R ++ N)).Perm ((X ++ N) ++ R) := permX.symm
theorem delA {α : Type} {p g : α} {X N R S : List α} : ((p :: ((X ++ (g :: N)) ++ R)) ++ S).Perm ([g] ++ ((p :: X) ++ (N ++ (R ++ S)))) := by
  classical exact List.perm_iff_count.2 fun x => by simp only [List.count_append, List.count_cons, List.count_nil]; omega
theorem delB {α : Type} {p g : α} {X N S : List α} : ((p :: (X ++ (g :: N))) ++ S).Perm ([g] ++ ((p :: X) ++ (N ++ S))) := by
  classical exact List.perm_iff_count.2 fun x => by simp only [List.count_append, List.count_cons, List.count_nil]; omega
theorem fin1 {α : Type} {g : α} {N R H : List α} : (g :: ((N ++ R) ++ H)).Perm ((N ++ (R ++ H)) ++ [g]) := by
  classical exact List.perm_iff_count.2 fun x => by simp only [List.count_append, List.count_cons, List.count_nil]; omega
theorem nodup_app {a b : LI} {n : Int} (ha : usersB a n = true) (hb : usersB b n = true) (hd : ∀ u ∈ b, u ∉ a) : (a ++ b).Nodup := List.nodup_append.2 ⟨users_nodup ha, users_nodup hb, fun _ hx y hy e => hd y hy (e ▸ hx)⟩
theorem merged_users {a b : LI} {n : Int} (hn : n ≤ 64) (ha : usersB a n = true) (hb : usersB b n = true) (hd : ∀ u ∈ b, u ∉ a) : sortI (a ++ b) = merged a b := merged_sort (nodup_app ha hb hd) fun _ hx => by
  rcases List.mem_append.1 hx with h | h
  · have := users_mem ha h; omega
  · have := users_mem hb h; omega
theorem _root_.Go.Proofs.Ytoegpalacppllaa.Hn.Valid.merged_rest {h : Hu} (v : Valid h) {l : LI} (hl : l ∈ h.ps) : sortI (h.rest ++ l) = merged h.rest l := merged_users v.u2 v.rest (v.ps l hl).1 fun _ hu => v.rest_side hl hu
theorem _root_.Go.Proofs.Ytoegpalacppllaa.Hn.Valid.merged_named {h : Hu} (v : Valid h) {l : LI} (hl : l ∈ h.ps) : sortI (h.named ++ l) = merged h.named l := merged_users v.u2 v.named (v.ps l hl).1 fun _ hu => v.named_side hl hu
theorem _root_.Go.Proofs.Ytoegpalacppllaa.Hn.Valid.named_rest {h : Hu} (v : Valid h) : sortI (h.named ++ h.rest) = merged h.named h.rest := merged_users v.u2 v.named v.rest fun _ hu => v.rest_named hu
/-- two lists, in a row -/
theorem RdG.two {w0 : Base} {W : World} {L : List Blk} (hW : Cl w0 L W) (p : Nat) {g : Nat} {ty : TypeId} {s t : Sl} {l m : List Int} (hp : L[p]? = some ⟨g, [s.v, t.v], ty⟩) (hs : RdI W s l) (ht : RdI W t m) : RdG W ⟨some ⟨g, 0, none⟩, 2, 2⟩ [s, t] [l, m] := by
  refine ⟨⟨⟨Nat.le_refl _, fun h => by cases h⟩, rfl, hW.rd (g := g) (cs := [s.v, t.v]) p hp 0 2 rfl⟩, rfl, rfl, fun i x y hx hy => ?_⟩
  match i with
  | 0 => simp only [List.getElem?_cons_zero, Option.some.injEq] at hx hy; subst hx; subst hy; exact hs
  | 1 => simp only [List.getElem?_cons_succ, List.getElem?_cons_zero, Option.some.injEq] at hx hy; subst hx; subst hy; exact ht
  | i + 2 => simp at hx
theorem sk_end {α : Type} {ss : List α} {x y : α} {k : Nat} (h : ss.length = 2 * k) : (ss ++ [x, y]).take (2 * k) ++ (ss ++ [x, y]).drop (2 * k + 2) = ss := by
  rw [← h, List.take_left, List.drop_eq_nil_iff.2 (by simp), List.append_nil]
theorem set_end {α : Type} {ss : List α} {x y u v : α} {k : Nat} (h : ss.length = 2 * k) : ((ss ++ [x, y]).set (k * 2) u).set (k * 2 + 1) v = ss ++ [u, v] := by
  rw [List.set_append_right _ _ (by omega), List.set_append_right _ _ (by omega), show k * 2 - ss.length = 0 by omega, show k * 2 + 1 - ss.length = 1 by omega]
  rfl
theorem del_cells {cur xs zs : List Value} {n c i j sz : Nat} (hcl : cur.length = c * sz) (hnc : n ≤ c) (hi : i < n) (hx : cur.take (n * sz) = xs) (hj : n - (i + 1) = 0 ∨ j = (i + 1) * sz) (hz : zs.length = (n - (i + (n - (i + 1)))) * sz) :
    let cur1 := cur.take (i * sz) ++ (cur.drop j).take ((n - (i + 1)) * sz) ++ cur.drop (i * sz + (n - (i + 1)) * sz)
    let k := (i + (n - (i + 1))) * sz
    (cur1.take k ++ zs ++ cur1.drop (k + (n - (i + (n - (i + 1)))) * sz)).length = c * sz ∧ (cur1.take k ++ zs ++ cur1.drop (k + (n - (i + (n - (i + 1)))) * sz)).take ((n - 1) * sz) = xs.take (i * sz) ++ xs.drop ((i + 1) * sz) := by
  intro cur1 k
  have e1 : i + (n - (i + 1)) = n - 1 := by omega
  have e2 : n - (i + (n - (i + 1))) = 1 := by omega
  have hk : k = (n - 1) * sz := by show (i + (n - (i + 1))) * sz = _; rw [e1]
  have hm : (n - (i + 1)) * sz + i * sz = (n - 1) * sz := by rw [← Nat.add_mul]; congr 1; omega
  have hm2 : (n - 1) * sz + sz = n * sz := by rw [← Nat.succ_mul]; congr 1; omega
  have hm3 : n * sz ≤ c * sz := Nat.mul_le_mul_right _ hnc
  have hm4 : (i + 1) * sz + (n - (i + 1)) * sz = n * sz := by rw [← Nat.add_mul]; congr 1; omega
  have hml : ((cur.drop j).take ((n - (i + 1)) * sz)).length = (n - (i + 1)) * sz := by
    rw [List.length_take, List.length_drop]
    rcases hj with h | h
    · rw [h]; simp
    · subst h; omega
  have hil : (cur.take (i * sz)).length = i * sz := by rw [List.length_take]; omega
  have h1 : cur1.length = c * sz := by
    show (cur.take (i * sz) ++ (cur.drop j).take ((n - (i + 1)) * sz) ++ cur.drop (i * sz + (n - (i + 1)) * sz)).length = _
    rw [List.length_append, List.length_append, hil, hml, List.length_drop]; omega
  have hkl : (cur1.take k).length = (n - 1) * sz := by rw [List.length_take, h1, hk]; omega
  refine ⟨?_, ?_⟩
  · rw [List.length_append, List.length_append, hkl, hz, List.length_drop, h1, e2, hk]; omega
  · rw [List.append_assoc, List.take_left' hkl, hk]
    show (cur.take (i * sz) ++ (cur.drop j).take ((n - (i + 1)) * sz) ++ cur.drop (i * sz + (n - (i + 1)) * sz)).take ((n - 1) * sz) = _
    rw [List.take_left' (by rw [List.length_append, hil, hml]; omega)]
    subst hx
    rw [List.take_take, Nat.min_eq_left (Nat.mul_le_mul_right _ (by omega)), List.drop_take]
    congr 1
    rcases hj with h | h
    · rw [h, Nat.zero_mul] at hm4
      rw [h, show n * sz - (i + 1) * sz = 0 by omega]; simp
    · subst h
      congr 1; omega
end Go.Proofs.Ytoegpalacppllaa

/- One pair less, by the library. -/
namespace Go.Proofs.Ytoegpalacppllaa
open Go.RowKit Pl
open Tr Hn
set_option maxRecDepth 10000 in
/-- slices.Delete[[]headend/api.Pair,headend/api.Pair] -/
theorem g_DeleteP (g n c i : Nat) (cur xs : List Value) (hO : OwnSl 99 2 (some ⟨g, 0, none⟩) n c xs [⟨g, cur, 99⟩]) (hi : i < n) (hone : ∀ v ∈ xs, v.oneCell' = true) : GivesS Try.prog 50 [.slice (some ⟨g, 0, none⟩) n c, .int .i64 (i : Int), .int .i64 ((i + 1 : Nat) : Int)].toArray (fun _ _ => True) [⟨g, cur, 99⟩] (fun v B => v = .slice (some ⟨g, 0, none⟩) (n - 1) c ∧ OwnSl 99 2 (some ⟨g, 0, none⟩) (n - 1) c (xs.take (i * 2) ++ xs.drop ((i + 1) * 2)) B) := by
  refine givesS_of Try.func50 rfl (bs := [.slice (some ⟨g, 0, none⟩) n c, .int .i64 (i : Int), .int .i64 ((i + 1 : Nat) : Int), undef, undef, undef, undef, undef, undef, undef, undef, undef, undef, undef, undef, undef, undef, undef, undef, undef, undef, undef, undef, undef, undef, undef, undef, undef, undef, undef, undef, undef, undef]) rfl ?_
  intro b L w hP hW
  obtain ⟨hnc, hcm, hcl, hct⟩ : n ≤ c ∧ c ≤ maxLen ∧ cur.length = c * 2 ∧ cur.take (n * 2) = xs := by
    rcases hO.2 with ⟨h, _⟩ | ⟨g2, cur2, h1, h2, h3⟩
    · cases h
    · simp only [Option.some.injEq, Addr.mk.injEq, and_true, List.cons.injEq, Blk.mk.injEq] at h1 h2
      obtain ⟨rfl, rfl⟩ := h2
      exact h3
  obtain ⟨j, hj⟩ : ∃ j, (if c = i + 1 then 0 else 0 + (i + 1) * 2) = j := ⟨_, rfl⟩
  have hj2 : n - (i + 1) = 0 ∨ j = (i + 1) * 2 := by
    by_cases hc : c = i + 1
    · exact .inl (by omega)
    · rw [if_neg hc] at hj; exact .inr (by omega)
  have hxl := congrArg List.length hct
  rw [List.length_take] at hxl
  refine c_seq ?_
  refine c_reg ?_
  refine l_val (r_assign (v := .slice _ _ _) rfl rfl) rfl rfl ?_
  refine l_end ?_
  refine n_then ?_
  refine c_seq ?_
  refine c_reg ?_
  refine l_val (r_move (v := .slice _ _ _) rfl rfl) rfl rfl ?_
  refine l_val (r_move (v := .int _ _) rfl rfl) rfl rfl ?_
  refine l_val (r_move (v := .int _ _) rfl rfl) rfl rfl ?_
  refine l_val (r_move (v := .slice _ _ _) rfl rfl) rfl rfl ?_
  refine l_val (r_lenSlice Try.underlying50 rfl rfl) rfl rfl ?_
  refine l_val (r_slice3 (l := i) (h := i + 1) (q := n) Try.underlying50 tyA99.size rfl rfl rfl rfl rfl (by omega) (by omega) (by omega) rfl) rfl rfl ?_
  refine l_end ?_
  refine n_then ?_
  refine c_seq ?_
  refine c_seq ?_
  refine c_reg ?_
  refine l_val (r_move (v := .int _ _) rfl rfl) rfl rfl ?_
  refine l_val (r_move (v := .int _ _) rfl rfl) rfl rfl ?_
  refine l_val (r_eqlN (b := false) rfl rfl rfl (decide_eq_false (by omega))) rfl rfl ?_
  refine l_end ?_
  refine n_then ?_
  refine c_false rfl ?_
  refine c_skip ?_
  refine n_then ?_
  refine c_seq ?_
  refine c_reg ?_
  refine l_val (r_move (v := .slice _ _ _) rfl rfl) rfl rfl ?_
  refine l_val (r_lenSlice Try.underlying50 rfl rfl) rfl rfl ?_
  refine l_val (r_assign (v := .int _ _) rfl rfl) rfl rfl ?_
  refine l_end ?_
  refine n_then ?_
  refine c_seq ?_
  refine c_regM hW [] [.q, .q, .q, .q, .q, .q, .tail, .tail] [] [] [] [0, 0, 3, 0, 0, 24, 63, 127] (by kernel_rfl) (by kernel_rfl) rfl (by kernel_rfl) ?_
  refine y_val (r_move (v := .slice _ _ _) rfl rfl) rfl rfl ?_
  refine y_val (r_move (v := .int _ _) rfl rfl) rfl rfl ?_
  refine y_val (r_sliceToN (h := i) Try.underlying50 tyA99.size rfl rfl rfl (by omega)) rfl rfl ?_
  refine y_val (r_move (v := .slice _ _ _) rfl rfl) rfl rfl ?_
  refine y_val (r_move (v := .int _ _) rfl rfl) rfl rfl ?_
  refine y_val (r_sliceFromN (l := i + 1) Try.underlying50 tyA99.size rfl rfl rfl (by omega) hj) rfl rfl ?_
  refine y_tail ?_
  intro W hW
  refine l_appendIn tyE50 (show Cl _ (_ :: _) _ from hW) rfl rfl rfl rfl rfl (by omega) hcl (by rcases hj2 with h | h <;> omega) (fun u hu => hone u ?_) ?_
  · rw [← hct]
    rcases hj2 with h | h
    · rw [h] at hu; simp at hu
    · subst h
      have hd := List.drop_take (i := (i + 1) * 2) (j := n * 2) (l := cur)
      rw [show n * 2 - (i + 1) * 2 = (n - (i + 1)) * 2 by omega] at hd
      rw [← hd] at hu
      exact List.mem_of_mem_drop hu
  intro W hW
  refine l_val (r_assign (v := .slice _ _ _) rfl rfl) rfl rfl ?_
  refine l_end ?_
  refine n_then ?_
  refine c_seq ?_
  refine c_reg ?_
  refine l_val (r_move (v := .slice _ _ _) rfl rfl) rfl rfl ?_
  refine l_val (r_move (v := .slice _ _ _) rfl rfl) rfl rfl ?_
  refine l_val (r_lenSlice Try.underlying50 rfl rfl) rfl rfl ?_
  refine l_val (r_move (v := .int _ _) rfl rfl) rfl rfl ?_
  refine l_val (r_sliceN (l := i + (n - (i + 1))) (h := n) (j := (i + (n - (i + 1))) * 2) Try.underlying50 tyA99.size rfl rfl rfl rfl (by omega) (by omega) (by rw [if_neg (by omega)]; omega)) rfl rfl ?_
  refine l_clear (sz := 2) (z := .agg z99.toArray) Try.underlying50 tyZ99 rfl (by simp [Value.cells, Value.oneCell']) (by decide) (show Cl _ (_ :: _) _ from hW) rfl rfl rfl rfl (by omega) (by simp only [List.length_append, List.length_take, List.length_drop]; omega) ?_
  intro zs W hzs hW
  refine l_end ?_
  refine n_then ?_
  refine c_seq ?_
  refine c_reg ?_
  refine l_val (r_move (v := .slice _ _ _) rfl rfl) rfl rfl ?_
  refine l_val (r_assign (v := .slice _ _ _) rfl rfl) rfl rfl ?_
  refine l_end ?_
  refine n_then ?_
  refine c_ret ?_
  refine ret_tmp (v := .slice _ _ _) rfl rfl ?_
  obtain ⟨hc1, hc2⟩ := del_cells hcl hnc hi hct hj2 hzs
  refine ⟨_, [_], rfl, ⟨congrArg (fun k => Value.slice (some ⟨g, 0, none⟩) k c) (by omega), ?_, .inr ⟨g, _, rfl, rfl, by omega, hcm, hc1, hc2⟩⟩, hW⟩
  rw [List.length_append, List.length_take, List.length_drop]; omega

end Go.Proofs.Ytoegpalacppllaa

/- A region that draws its order, with a chain of quiet operations that may come at any time beside the rest. No function of the program is in sight here. -/
namespace Go.Proofs.Ytoegpalacppllaa
open Go.RowKit

theorem at_app {α : Type} {B L : List α} {p : Nat} {x : α} (h : L[p]? = some x) : (B ++ L)[B.length + p]? = some x := by
  rw [List.getElem?_append_right (Nat.le_add_right _ _), Nat.add_sub_cancel_left]; exact h
/-- a quiet operation: its place, itself, its value -/
abbrev Zl := List (Nat × Oper × Value)
def zput (a : Act) : Zl → Act
  | [] => a
  | x :: l => zput (a.put x.2.1.dst x.2.2) l
def zset (done : Array Bool) : Zl → Array Bool
  | [] => done
  | x :: l => zset (done.setIfInBounds x.1 true) l
def ZokL (P : Program) (w0 : Base) (S : List Nat) (L0 : List Blk) : Act → Zl → Prop
  | _, [] => True
  | a, x :: l => Zok P w0 S L0 a x.2.1 x.2.2 ∧ ZokL P w0 S L0 (a.put x.2.1.dst x.2.2) l
/-- each waits for the one ahead of it, and for no other -/
def zchain (md : Region.Mode) : List Nat → Zl → Prop
  | _, [] => True
  | pre, x :: l => (∀ e ∈ x.2.1.after, Region.binds md e = true → e.on ∈ pre) ∧ (∀ y ∈ l, ∃ e ∈ y.2.1.after, Region.binds md e = true ∧ (e.on = x.1 ∨ e.on ∈ l.map (·.1))) ∧ zchain md (x.1 :: pre) l
structure Zed1 (ops : Array Oper) (ms : List Mk) (ix : List Nat) (kd : Nat → Kd) (zs : List Nat) (z : Nat) (oz : Oper) : Prop where
  at_ : ops[z]? = some oz
  guard : oz.guard = none
  apart : ∀ (j : Nat) oj, ops[j]? = some oj → j ∉ zs → (kd j).isTail = false → oz.apart ops oj = true
  ds : ∀ k ∈ ms, k.d ∉ oz.looksAt ops ∧ oz.dst ≠ some k.d
  ix : ∀ i ∈ ix, i ≠ z

section
variable {P : Program} {ops : Array Oper} {Q : Exit → Act → World → Prop} {a : Act} {w0 : Base} {W : World} {L : List Blk} {md : Region.Mode} {S : List Nat} {r : Option (Option Nat)} {m : Nat} {ms : List Mk} {bs : List Value} {us : List (Nat × Value)} {ds : List Deferred}

theorem zset_ne : ∀ (l : Zl) {done : Array Bool} {i : Nat} (b : Bool), (∀ x ∈ l, x.1 ≠ i) → (zset done l).getD i b = done.getD i b
  | [], _, _, _, _ => rfl
  | x :: l, done, i, b, h => by
    rw [zset, zset_ne l b fun y hy => h y (by simp [hy]), getD_set_ne b (h x (by simp))]
theorem zset_set : ∀ (l : Zl) {done : Array Bool} {i : Nat}, (∀ x ∈ l, x.1 ≠ i) → (zset done l).setIfInBounds i true = zset (done.setIfInBounds i true) l
  | [], _, _, _ => rfl
  | x :: l, done, i, h => by
    rw [zset, zset_set l fun y hy => h y (by simp [hy]), zset, Array.setIfInBounds_comm _ _ (h x (by simp))]
theorem zset_mono : ∀ (l : Zl) {done : Array Bool} {i : Nat}, done.getD i false = true → (zset done l).getD i false = true
  | [], _, _, h => h
  | x :: l, done, i, h => by
    refine zset_mono l ?_
    by_cases hx : x.1 = i
    · subst hx
      have := getD_true_lt h
      simp [this]
    · rw [getD_set_ne false hx]; exact h
theorem zready : ∀ (l : Zl) {done : Array Bool} {i : Nat}, i ∈ Region.ready md ops done → (∀ x ∈ l, x.1 ≠ i) → i ∈ Region.ready md ops (zset done l) := fun l done i hi hne => by
  obtain ⟨hd, oi, ho, hall⟩ := mem_ready.1 hi
  exact mem_ready.2 ⟨by rw [zset_ne l true hne]; exact hd, oi, ho, fun e he hb => zset_mono l (hall e he hb)⟩
theorem ZokL.putK {L0 : List Blk} {k : Kd} {dst : Option Tmp} {v : Value} : ∀ (l : Zl) (a : Act), (∀ x ∈ l, (∀ cs b, x.2.1.op ≠ .select cs b) ∧ (∀ d, dst = some d → d ∉ x.2.1.looksAt ops) ∧ (∀ d, x.2.1.dst = some d → dst ≠ some d)) → ZokL P w0 S L0 a l → ZokL P w0 S L0 (putK k a dst v) l
  | [], _, _, _ => trivial
  | x :: l, a, hx, h => by
    obtain ⟨h1, h2, h3⟩ := hx x (by simp)
    refine ⟨?_, ?_⟩
    · intro L2 w hs hc
      have e : execOp (Go.Proofs.Ytoegpalacppllaa.putK k a dst v).eval x.2.1 = execOp a.eval x.2.1 := by
        cases k <;> first | rfl | exact execOp_put x.2.1 h1 a dst v h2
      rw [e]; exact h.1 L2 w hs hc
    · have hc : (Go.Proofs.Ytoegpalacppllaa.putK k a dst v).put x.2.1.dst x.2.2 = Go.Proofs.Ytoegpalacppllaa.putK k (a.put x.2.1.dst x.2.2) dst v := (putK_comm (a := a) (j := Kd.q) (k := k) (x := x.2.1.dst) (y := dst) x.2.2 v h3).symm
      rw [hc]
      exact ZokL.putK l _ (fun y hy => hx y (by simp [hy])) h.2

theorem anyC_zs {N : Nat} {L0 : List Blk} {kd : Nat → Kd} {ix : List Nat} (hA : AllB md ops ms ix kd) (hsel : ∀ (j : Nat) (o : Oper) cs b, ops[j]? = some o → o.op ≠ .select cs b) : ∀ (zs : Zl) (pre : List Nat) (U : Nat → Array Bool → Act → St → Prop), (∀ x ∈ zs, Zed1 ops ms ix kd (zs.map (·.1) ++ pre) x.1 x.2.1) → zchain md pre zs → (zs.map (·.1)).Nodup →
    (∀ p q, zs = p ++ q → ∀ f done a s vs Ns w, Made ms s.2 vs Ns → (∀ v ∈ vs, v.isSome = true) → Cl w0 (s.1 ++ Ns.flatten) w → a.tmps.size = N → (q ≠ [] → Closed md ops done) → (∀ x ∈ q, done.getD x.1 true = false) → (zs ≠ [] → Sim S L0 s.1 ∧ ZokL P w0 S L0 a zs) → U f (zset done q) a s → AW r m P md ops Q (f + q.length) done (puts (zput a p) ms vs) w) →
    ∀ (f : Nat) (done : Array Bool) (a : Act) (s : St) (vs : List (Option Value)) (Ns : List (List Blk)) (w : World), Sim S L0 s.1 → ZokL P w0 S L0 a zs → Closed md ops done → (∀ x ∈ zs, done.getD x.1 true = false) → (∀ p ∈ pre, done.getD p false = true) → Made ms s.2 vs Ns → (∀ (q i : Nat), ix[q]? = some i → ((∃ v, vs[q]? = some (some v)) ↔ done.getD i false = true)) → (∀ m ∈ ms, m.d < a.tmps.size) → a.tmps.size = N →
      Cl w0 (s.1 ++ Ns.flatten) w → anyC P md ops w0 S ms kd ix (fun _ _ => False) U f (zset done zs) a s → AW r m P md ops Q (f + zs.length) done (puts a ms vs) w := by
  intro zs
  induction zs with
  | nil =>
    intro pre U _ _ _ hT f done a s vs Ns w _ _ _ _ _ hM hrel hsz hN hC h
    exact anyC_any (N := N) hA hsel (R := fun _ _ => False) (U := U) (fun _ _ _ _ _ _ _ _ h => h.elim) (fun f done a s vs Ns w hM hs hC hN hU => hT [] [] rfl f done a s vs Ns w hM hs hC hN (fun h => absurd rfl h) (by simp) (fun h => absurd rfl h) hU) f done a s vs Ns w hM hrel hsz hN hC h
  | cons x l ihl =>
    intro pre U hz hch hnd hT f
    have hzx := hz x (by simp)
    have hnx : ∀ y ∈ l, y.1 ≠ x.1 := fun y hy e => by
      rw [List.map_cons, List.nodup_cons] at hnd
      exact hnd.1 (List.mem_map.2 ⟨y, hy, e⟩)
    have hds : ∀ k ∈ ms, k.d ∉ x.2.1.looksAt ops := fun k hk => (hzx.ds k hk).1
    -- what is asked of an operation of the first layer
    have hside : ∀ {i : Nat} {oi : Oper}, ops[i]? = some oi → i ∉ ((x :: l).map (·.1) ++ pre) → (kd i).isTail = false → ∀ y ∈ x :: l, (∀ cs b, y.2.1.op ≠ .select cs b) ∧ (∀ d, oi.dst = some d → d ∉ y.2.1.looksAt ops) ∧ (∀ d, y.2.1.dst = some d → oi.dst ≠ some d) := fun ho hi ht y hy => by
      obtain ⟨_, h2, h3⟩ := Oper.apart_spec ((hz y hy).apart _ _ ho hi ht)
      exact ⟨fun cs b => hsel y.1 y.2.1 cs b (hz y hy).at_, h3, h2⟩
    have notin : ∀ {done : Array Bool} {i : Nat}, (∀ y ∈ x :: l, done.getD y.1 true = false) → (∀ p ∈ pre, done.getD p false = true) → i ∈ Region.ready md ops (zset done (x :: l)) → i ∉ ((x :: l).map (·.1) ++ pre) := by
      intro done i hd hpre hi hm
      have h1 := (mem_ready.1 hi).1
      have hmm : ∀ (l : Zl) (done : Array Bool) (j : Nat), j ∈ l.map (·.1) → j < done.size → (zset done l).getD j true = true := by
        intro l
        induction l with
        | nil => intro done j h; simp at h
        | cons y l ih =>
          intro done j h hlt
          rcases List.mem_cons.1 h with rfl | h
          · by_cases hy : ∃ u ∈ l, u.1 = y.1
            · obtain ⟨u, hu, e⟩ := hy
              exact ih _ _ (List.mem_map.2 ⟨u, hu, e⟩) (by simpa using hlt)
            · rw [zset, zset_ne l true fun u hu e => hy ⟨u, hu, e⟩]
              simp [hlt]
          · exact ih _ _ h (by simpa using hlt)
      rcases List.mem_append.1 hm with hm | hm
      · obtain ⟨y, hy, rfl⟩ := List.mem_map.1 hm
        rw [hmm (x :: l) done y.1 hm (getD_false_lt (hd y hy))] at h1; cases h1
      · have h2 := zset_mono (x :: l) (hpre i hm)
        have hlt := getD_true_lt h2
        simp only [Array.getD_eq_getD_getElem?, Array.getElem?_eq_getElem hlt, Option.getD_some] at h1 h2
        rw [h1] at h2; cases h2
    have hput : ∀ (f : Nat) (done : Array Bool) (a : Act) (s : St), Sim S L0 s.1 → ZokL P w0 S L0 a (x :: l) → (∀ m ∈ ms, m.d < a.tmps.size) → a.tmps.size = N → (∀ y ∈ x :: l, done.getD y.1 true = false) → (∀ p ∈ pre, done.getD p false = true) → anyC P md ops w0 S ms kd ix (fun _ _ => False) U f (zset done (x :: l)) a s →
        anyC P md ops w0 S ms kd ix (fun _ _ => False) (fun f done a1 s => ∃ a0, a1 = a0.put x.2.1.dst x.2.2 ∧ a0.tmps.size = N ∧ Sim S L0 s.1 ∧ ZokL P w0 S L0 a0 (x :: l) ∧ U f done a0 s) f (zset done (x :: l)) (a.put x.2.1.dst x.2.2) s := by
      intro f
      induction f with
      | zero => intro done a s _ _ _ _ _ _ h; exact h.2.2.elim
      | succ f ih =>
        intro done a s hS hZ hsz hN hd hpre h
        refine ⟨h.1, h.2.imp (fun ⟨y1, y2, u⟩ => ⟨y1, y2, a, rfl, hN, hS, hZ, u⟩) fun h2 i hi => ?_⟩
        obtain ⟨oi, ho, v, s', hk, hn⟩ := h2 i hi
        have hni := notin hd hpre hi
        have hne : ∀ y ∈ x :: l, y.1 ≠ i := fun y hy e => hni (List.mem_append.2 (.inl (List.mem_map.2 ⟨y, hy, e⟩)))
        cases ht : (kd i).isTail with
        | true =>
          have e : kd i = .tail := by cases hkd : kd i <;> rw [hkd] at ht <;> simp [Kd.isTail] at ht <;> rfl
          rw [e] at hk; exact hk.elim
        | false =>
          obtain ⟨h1, h2', h3⟩ := Oper.apart_spec (hzx.apart i oi ho hni ht)
          refine ⟨oi, ho, v, s', (StepK.eq (hsel i oi · · ho) h1).2 hk, ?_⟩
          have hc : putK (kd i) (a.put x.2.1.dst x.2.2) oi.dst v = (putK (kd i) a oi.dst v).put x.2.1.dst x.2.2 := putK_comm (a := a) (j := Kd.q) (k := kd i) (x := x.2.1.dst) (y := oi.dst) x.2.2 v h2'
          rw [hc, zset_set _ hne]
          rw [zset_set _ hne] at hn
          have hsz2 : (putK (kd i) a oi.dst v).tmps.size = a.tmps.size := by cases kd i <;> simp [putK, put_size]
          exact ih (done.setIfInBounds i true) (putK (kd i) a oi.dst v) s' (hS.trans hk.sim) (hZ.putK _ _ (hside ho hni ht)) (fun m hm => by rw [hsz2]; exact hsz m hm) (by rw [hsz2]; exact hN)
            (fun y hy => by rw [getD_set_ne true (Ne.symm (hne y hy))]; exact hd y hy) (fun p hp => by
              by_cases hip : i = p
              · exact absurd (List.mem_append.2 (.inr (hip ▸ hp))) hni
              · rw [getD_set_ne false hip]; exact hpre p hp) hn
    have zstep : ∀ (f : Nat) (done : Array Bool) (a : Act) (s : St) (vs : List (Option Value)) (Ns : List (List Blk)) (w : World), Sim S L0 s.1 → ZokL P w0 S L0 a (x :: l) → Closed md ops done → (∀ y ∈ x :: l, done.getD y.1 true = false) → (∀ p ∈ pre, done.getD p false = true) → Made ms s.2 vs Ns → (∀ (q i : Nat), ix[q]? = some i → ((∃ v, vs[q]? = some (some v)) ↔ done.getD i false = true)) → (∀ m ∈ ms, m.d < a.tmps.size) → a.tmps.size = N →
        Cl w0 (s.1 ++ Ns.flatten) w → x.1 ∈ Region.ready md ops done → anyC P md ops w0 S ms kd ix (fun _ _ => False) U f (zset done (x :: l)) a s → OW r m P ops Q x.1 (AW r m P md ops Q (f + l.length) (done.setIfInBounds x.1 true)) (puts a ms vs) w := by
      intro f done a s vs Ns w hS hZ hc hd hpre hM hrel hsz hN hC hrdy h
      have hexec : (execOp (puts a ms vs).eval x.2.1).run P w = .ok (.value x.2.2) w := by
        rw [puts_exec (ops := ops) (hsel x.1 x.2.1 · · hzx.at_) ms vs a hds]; exact hZ.1 _ w (hS.trans (Sim.more S s.1 Ns.flatten)) hC
      refine OW.val hzx.at_ (by simp [Region.wanted, hzx.guard]) hexec ?_
      rw [puts_put ms vs a fun k hk => (hzx.ds k hk).2]
      refine ihl (x.1 :: pre) (fun f done a1 s => ∃ a0, a1 = a0.put x.2.1.dst x.2.2 ∧ a0.tmps.size = N ∧ Sim S L0 s.1 ∧ ZokL P w0 S L0 a0 (x :: l) ∧ U f done a0 s) (fun y hy => ?_) hch.2.2 (by rw [List.map_cons, List.nodup_cons] at hnd; exact hnd.2) ?_ f (done.setIfInBounds x.1 true) (a.put x.2.1.dst x.2.2) s vs Ns w hS hZ.2 (hc.set hrdy)
        (fun y hy => by rw [getD_set_ne true (Ne.symm (hnx y hy))]; exact hd y (by simp [hy])) (fun p hp => ?_) hM (fun q i hq => by
          rw [getD_set_ne false (Ne.symm (hzx.ix i (List.mem_of_getElem? hq)))]; exact hrel q i hq) (fun m hm => by rw [put_size]; exact hsz m hm) (by rw [put_size]; exact hN) hC (hput f done a s hS hZ hsz hN hd hpre h)
      · have h1 := hz y (by simp [hy])
        exact ⟨h1.at_, h1.guard, fun j oj hj hn ht => h1.apart j oj hj (fun e => hn (by
          simp only [List.map_cons, List.cons_append, List.mem_cons, List.mem_append] at e ⊢
          rcases e with e | e | e
          · exact .inr (.inl e)
          · exact .inl e
          · exact .inr (.inr e))) ht, h1.ds, h1.ix⟩
      · rintro p q hpq f done _ s vs Ns w hM hs hC hN2 hcq hdq hSZ ⟨a0, rfl, hN0, hS0, hZ0, hU⟩
        exact hT (x :: p) q (by rw [hpq]; rfl) f done a0 s vs Ns w hM hs hC hN0 hcq hdq (fun _ => ⟨hS0, hZ0⟩) hU
      · rcases List.mem_cons.1 hp with rfl | hp
        · simp [getD_false_lt (hd x (by simp))]
        · by_cases hxp : x.1 = p
          · subst hxp
            simp [getD_false_lt (hd x (by simp))]
          · rw [getD_set_ne false hxp]; exact hpre p hp
    have xready : ∀ {done : Array Bool}, done.getD x.1 true = false → (∀ p ∈ pre, done.getD p false = true) → x.1 ∈ Region.ready md ops done := fun hd hpre => mem_ready.2 ⟨hd, x.2.1, hzx.at_, fun e he hb => hpre _ (hch.1 e he hb)⟩
    have lnot : ∀ {done : Array Bool} {i : Nat}, (∀ y ∈ x :: l, done.getD y.1 true = false) → i ∈ Region.ready md ops done → ∀ y ∈ l, y.1 ≠ i := fun hd hi y hy e => by
      subst e
      obtain ⟨_, oy, hoy, hall⟩ := mem_ready.1 hi
      have : oy = y.2.1 := Option.some.inj (hoy.symm.trans (hz y (by simp [hy])).at_)
      subst this
      obtain ⟨e, he, hb, hon⟩ := hch.2.1 y hy
      have h1 := hall e he hb
      have h2 : ∃ u ∈ x :: l, u.1 = e.on := by
        rcases hon with h | h
        · exact ⟨x, by simp, h.symm⟩
        · obtain ⟨u, hu, e⟩ := List.mem_map.1 h
          exact ⟨u, by simp [hu], e⟩
      obtain ⟨u, hu, e⟩ := h2
      rw [← e] at h1
      have h3 := getD_false_both (hd u hu)
      rw [h1] at h3; cases h3
    induction f with
    | zero => intro done a s vs Ns w _ _ _ _ _ _ _ _ _ _ h; exact h.2.2.elim
    | succ f ih =>
      intro done a s vs Ns w hS hZ hc hd hpre hM hrel hsz hN hC h
      have hrdy := xready (hd x (by simp)) hpre
      have relz : ∀ (q i : Nat), ix[q]? = some i → ((∃ v, vs[q]? = some (some v)) ↔ (zset done (x :: l)).getD i false = true) := fun q i hq => by
        rw [zset_ne (x :: l) false fun y hy => Ne.symm ((hz y hy).ix i (List.mem_of_getElem? hq))]; exact hrel q i hq
      rcases h.2 with ⟨_, hmade, hU⟩ | h2
      · exact hT [] (x :: l) rfl (f + 1) done a s vs Ns w hM (mk_full hA hM.len relz hmade) hC hN (fun _ => hc) hd (fun _ => ⟨hS, hZ⟩) hU
      refine AW.succ (List.ne_nil_of_mem hrdy) fun i hi => ?_
      by_cases hix : i = x.1
      · subst hix
        exact zstep (f + 1) done a s vs Ns w hS hZ hc hd hpre hM hrel hsz hN hC hrdy h
      · have hne : ∀ y ∈ x :: l, y.1 ≠ i := fun y hy => by
          rcases List.mem_cons.1 hy with rfl | hy
          · exact Ne.symm hix
          · exact lnot hd hi y hy
        have hiz := zready (x :: l) hi hne
        obtain ⟨oi, ho, v, s', hk, hn⟩ := h2 i hiz
        have hni := notin hd hpre hiz
        have hlen : (f + 1).add l.length = f + (x :: l).length := by show f + 1 + l.length = _; simp only [List.length_cons]; omega
        rw [hlen]
        refine step_any hA hsel hM hrel hsz hC hi ho hk fun vs' Ns' w' hM' hrel' hC' => ?_
        have hsz2 : (putK (kd i) a oi.dst v).tmps.size = a.tmps.size := by cases kd i <;> simp [putK, put_size]
        have ht : (kd i).isTail = false := by
          cases hkd : kd i <;> first | rfl | (rw [hkd] at hk; exact hk.elim)
        rw [zset_set _ hne] at hn
        exact ih (done.setIfInBounds i true) _ s' vs' Ns' w' (hS.trans hk.sim) (hZ.putK _ _ (hside ho hni ht)) (hc.set hi) (fun y hy => by rw [getD_set_ne true (Ne.symm (hne y hy))]; exact hd y hy) (fun p hp => by
            by_cases hip : i = p
            · exact absurd (List.mem_append.2 (.inr (hip ▸ hp))) hni
            · rw [getD_set_ne false hip]; exact hpre p hp) hM' hrel' (fun m hm => by rw [hsz2]; exact hsz m hm) (by rw [hsz2]; exact hN) hC' hn

/-! ### a region -/
def setA (b : Bool) : Array Bool → List Nat → Array Bool
  | d, [] => d
  | d, i :: l => setA b (d.setIfInBounds i b) l
theorem setA_get (b : Bool) : ∀ (l : List Nat) (d : Array Bool) (i : Nat), (setA b d l)[i]? = if i ∈ l ∧ i < d.size then some b else d[i]?
  | [], d, i => by simp [setA]
  | j :: l, d, i => by
    rw [setA, setA_get b l]
    by_cases hj : i = j
    · subst hj
      by_cases hi : i < d.size
      · by_cases hl : i ∈ l <;> simp [hi, hl]
      · have : d[i]? = none := Array.getElem?_eq_none (by omega)
        simp [hi]
    · by_cases hl : i ∈ l
      · by_cases hi : i < d.size
        · simp [hl, hi]
        · simp [Array.getElem?_setIfInBounds_ne (Ne.symm hj)]
          rw [if_neg fun h => hi h.2, if_neg fun h => hi h.2]
      · simp [hl, hj, Array.getElem?_setIfInBounds_ne (Ne.symm hj)]
theorem zset_A : ∀ (l : Zl) (d : Array Bool), zset d l = setA true d (l.map (·.1))
  | [], _ => rfl
  | x :: l, d => by rw [zset, zset_A l]; rfl
theorem setA_back {d : Array Bool} {p q : List Nat} (hq : ∀ i ∈ q, d.getD i true = false) (hp : ∀ i ∈ p ++ q, (setA true d q).getD i false = true) (hn : (p ++ q).Nodup) : setA true (setA false (setA true d q) (p ++ q)) p = d := by
  have sz : ∀ (b : Bool) (l : List Nat) (d : Array Bool), (setA b d l).size = d.size := fun b l => by
    induction l with
    | nil => intro d; rfl
    | cons i l ih => intro d; rw [setA, ih]; simp
  apply Array.ext_getElem?
  intro i
  rw [setA_get, setA_get, setA_get, sz, sz]
  have hdis : i ∈ p → i ∉ q := fun h h' => (List.nodup_append.1 hn).2.2 i h i h' rfl
  by_cases hi : i < d.size
  · by_cases h1 : i ∈ p
    · have := hp i (by simp [h1])
      rw [Array.getD_eq_getD_getElem?, setA_get] at this
      simp only [hdis h1, false_and, if_false] at this
      have h0 : d[i]? = some d[i] := by simp [hi]
      rw [h0] at this ⊢
      simp only [Option.getD_some] at this
      simp [h1, hi, this]
    · by_cases h2 : i ∈ q
      · have := hq i h2
        have h0 : d[i]? = some d[i] := by simp [hi]
        rw [Array.getD_eq_getD_getElem?, h0] at this
        simp only [Option.getD_some] at this
        rw [h0]
        simp [h1, h2, hi, this]
      · simp [h1, h2]
  · simp [hi]

def zsB (ops : Array Oper) (D ix : List Nat) (kd : Nat → Kd) (zs : List Nat) : Bool := zs.all fun z => match ops[z]? with
  | some oz => oz.guard.isNone && D.all (fun d => !(oz.looksAt ops).contains d && oz.dst != some d) &&
      ((List.range ops.size).all fun j => zs.contains j || (kd j).isTail || match ops[j]? with | some oj => oz.apart ops oj | none => true) && ix.all (fun i => !(i == z))
  | none => false
def zchB (md : Region.Mode) (ops : Array Oper) : List Nat → List Nat → Bool
  | _, [] => true
  | pre, z :: l => (match ops[z]? with
    | some oz => oz.after.all (fun e => !Region.binds md e || pre.contains e.on)
    | none => false) && (l.all fun y => match ops[y]? with
      | some oy => oy.after.toList.any (fun e => Region.binds md e && (e.on == z || l.contains e.on))
      | none => false) && zchB md ops (z :: pre) l
def Zat (ops : Array Oper) : Zl → Prop
  | [] => True
  | x :: l => ops[x.1]? = some x.2.1 ∧ Zat ops l
def ZevL (P : Program) (w0 : Base) (S : List Nat) (L : List Blk) (bs : List Value) : List (Nat × Value) → Zl → Prop
  | _, [] => True
  | us, x :: l => (∀ L2 w, Sim S L L2 → Cl w0 L2 w → (execOp (ev bs us) x.2.1).run P w = .ok (.value x.2.2) w) ∧ ∃ d, x.2.1.dst = some d ∧ ZevL P w0 S L bs ((d, x.2.2) :: us) l
theorem ZevL.ok : ∀ (l : Zl) (us : List (Nat × Value)), ZevL P w0 S L bs us l → ZokL P w0 S L (fr bs us ds) l
  | [], _, _ => trivial
  | x :: l, us, ⟨h, d, hd, hl⟩ => ⟨fun L2 w hs hc => by rw [eval_ev]; exact h L2 w hs hc, by rw [hd, put_st]; exact ZevL.ok l _ hl⟩
theorem Zat.mem {l : Zl} (h : Zat ops l) : ∀ x ∈ l, ops[x.1]? = some x.2.1 := by
  induction l with
  | nil => intro x hx; cases hx
  | cons y l ih =>
    intro x hx
    rcases List.mem_cons.1 hx with rfl | hx
    · exact h.1
    · exact ih h.2 x hx
theorem zsB_spec {ix : List Nat} {kd : Nat → Kd} {l : Zl} (hat : Zat ops l) (h : zsB ops (ms.map Mk.d) ix kd (l.map (·.1)) = true) : ∀ x ∈ l, Zed1 ops ms ix kd (l.map (·.1) ++ []) x.1 x.2.1 := fun x hx => by
  have h1 := List.all_eq_true.1 h x.1 (List.mem_map.2 ⟨x, hx, rfl⟩)
  rw [hat.mem x hx] at h1
  simp only [Bool.and_eq_true, Option.isNone_iff_eq_none] at h1
  obtain ⟨⟨⟨h1, h3⟩, h4⟩, h5⟩ := h1
  refine ⟨hat.mem x hx, h1, fun j oj hj hne ht => ?_, fun k hk => ?_, fun i hi e => ?_⟩
  · have := List.all_eq_true.1 h4 j (List.mem_range.2 (Array.getElem?_eq_some_iff.1 hj).1)
    rw [hj] at this
    have hc : (l.map (·.1)).contains j = false := by
      rw [List.append_nil] at hne
      cases hh : (l.map (·.1)).contains j
      · rfl
      · exact absurd (by simpa using hh) hne
    rw [hc, ht] at this
    simpa using this
  · have := List.all_eq_true.1 h3 k.d (List.mem_map.2 ⟨k, hk, rfl⟩)
    simpa using this
  · have := List.all_eq_true.1 h5 i hi
    simp [e] at this
theorem zchB_spec : ∀ {l : Zl} {pre : List Nat}, Zat ops l → zchB md ops pre (l.map (·.1)) = true → zchain md pre l
  | [], _, _, _ => trivial
  | x :: l, pre, ⟨h0, hl⟩, h => by
    simp only [List.map_cons, zchB, Bool.and_eq_true, h0] at h
    refine ⟨fun e he hb => ?_, fun y hy => ?_, zchB_spec hl h.2⟩
    · have := Array.all_eq_true_iff_forall_mem.1 h.1.1 e he
      simpa [hb] using this
    · have := List.all_eq_true.1 h.1.2 y.1 (List.mem_map.2 ⟨y, hy, rfl⟩)
      rw [Zat.mem hl y hy] at this
      obtain ⟨e, he, hb⟩ := List.any_eq_true.1 this
      simp only [Bool.and_eq_true, Bool.or_eq_true, beq_iff_eq, List.contains_iff_mem] at hb
      exact ⟨e, by simpa using he, hb⟩

def regionW (ops : Array Oper) (ks ks2 : List Kd) (D ix M D2 ix2 ord rest zs : List Nat) : Bool :=
  Region.noSelect ops && allB .any ops D ix (fun j => ks.getD j .tail) && masksB .any ops M && allB .any ops D2 ix2 (fun j => ks2.getD j .tail) && ((zs ++ (ord ++ rest)).all fun k => Nat.blt k ops.size) && ((ord ++ rest).length + zs.length == ops.size) &&
    zsB ops D ix (fun j => ks.getD j .tail) zs && zchB .any ops [] zs && decide zs.Nodup && (zs.all fun z => match ks2.getD z .tail with | .q => true | _ => false) &&
    lexO .any ops (fun j => ks.getD j .tail) ix M (fun o done => (o == rest) && ((zs.all fun z => done.getD z false) && (ix2.all fun i => !zs.contains i && !done.getD i false) && lexO .any ops (fun j => ks2.getD j .tail) ix2 M (fun o done => seqO .any ops o done) (zs ++ rest) (setA false done zs))) (ord ++ rest) (setA true (Array.replicate ops.size false) zs)

theorem lexO_peel {kd : Nat → Kd} {ix M : List Nat} {tl : List Nat → Array Bool → Bool} : ∀ (p : List Nat) {o : List Nat} {done : Array Bool}, (∀ z ∈ p, kd z = .q) → lexO md ops kd ix M tl (p ++ o) done = true → lexO md ops kd ix M tl o (setA true done p) = true
  | [], _, _, _, h => h
  | z :: p, o, done, hk, h => by
    rw [List.cons_append, lexO, hk z (by simp)] at h
    simp only [Bool.and_eq_true] at h
    exact lexO_peel p (fun y hy => hk y (by simp [hy])) h.2
theorem lx_peel {kd : Nat → Kd} {S2 : List Nat} {ms2 : List Mk} {V2 : List (List Value)} {R : Act → St → Prop} {T : List Oper → Act → St → Prop} {L0 L' : List Blk} {w : World} {vs : List (Option Value)} (hC' : Cl w0 L' w) (hS : ∃ L2, Sim S L0 L2 ∧ Cl w0 L2 w) (hsel : ∀ (j : Nat) (o : Oper) cs b, ops[j]? = some o → o.op ≠ .select cs b) : ∀ (p : Zl) (o : List Nat) (a : Act), (∀ x ∈ p, ops[x.1]? = some x.2.1 ∧ x.2.1.guard = none ∧ ∀ k ∈ ms, k.d ∉ x.2.1.looksAt ops ∧ x.2.1.dst ≠ some k.d) → (∀ x ∈ p, kd x.1 = .q) →
    ZokL P w0 S L0 a p → lx P ops w0 S2 ms2 R T ((p.map (·.1) ++ o).map kd) (pickL ops (p.map (·.1) ++ o)) (puts a ms vs) (L', V2) → lx P ops w0 S2 ms2 R T (o.map kd) (pickL ops o) (puts (zput a p) ms vs) (L', V2)
  | [], _, _, _, _, _, h => h
  | x :: p, o, a, hx, hk, hZ, h => by
    obtain ⟨hat, hg, hds⟩ := hx x (by simp)
    have hpick : pickL ops ((x :: p).map (·.1) ++ o) = x.2.1 :: pickL ops (p.map (·.1) ++ o) := by simp only [List.map_cons, List.cons_append, pickL, hat]
    rw [hpick, List.map_cons, List.cons_append, List.map_cons, hk x (by simp)] at h
    obtain ⟨v, s2, ⟨hy, rfl⟩, h⟩ := h
    obtain ⟨L2, hS2, hC2⟩ := hS
    have hrun : (execOp (puts a ms vs).eval x.2.1).run P w = .ok (.value x.2.2) w := by
      rw [puts_exec (ops := ops) (hsel x.1 x.2.1 · · hat) ms vs a fun k hk => (hds k hk).1]; exact hZ.1 L2 w hS2 hC2
    have hvz : v = x.2.2 := by
      rcases hy L' (Sim.refl _ _) with ⟨_, hq⟩ | ⟨hw, _⟩
      · have := hq w hC'
        unfold Oper.quietAt at this
        rw [hrun] at this
        first | exact this.2.symm | exact this.2
      · simp [Region.wanted, hg] at hw
    subst hvz
    simp only [putK] at h
    rw [puts_put ms vs a fun k hk => (hds k hk).2] at h
    exact lx_peel hC' ⟨L2, hS2, hC2⟩ hsel p o _ (fun y hy => hx y (by simp [hy])) (fun y hy => hk y (by simp [hy])) hZ.2 h
theorem zput_size : ∀ (l : Zl) (a : Act), (zput a l).tmps.size = a.tmps.size
  | [], _ => rfl
  | x :: l, a => by rw [zput, zput_size l, put_size]

/-- makers first; then, beside a chain of quiet operations that may come at any time: whatever order again, its last operations in order -/
theorem c_regW (hW : Cl w0 L W) {id : Nat} {os : List Oper} (S : List Nat) (ks : List Kd) (ms : List Mk) (V : List (List Value)) (ix M S2 : List Nat) (ks2 : List Kd) (D2 ix2 ord rest zs : List Nat) (hm : P.follows .mixedOrders = true) (hB : regionW os.toArray ks ks2 (ms.map Mk.d) ix M D2 ix2 ord rest zs = true) (hV : V.length = ms.length) (hd : (ms.all fun k => Nat.blt k.d bs.length) = true) (hd2 : (D2.all fun k => Nat.blt k bs.length) = true)
    (l : Zl) (hlz : l.map (·.1) = zs) (hat : Zat os.toArray l) (hzr : ZevL P w0 S L bs us l)
    (h : lx P os.toArray w0 S ms (fun _ _ => False)
      (fun _ a' s' => Full ms s'.2 a' s'.1 fun a' L' => ∃ (ms2 : List Mk) (V2 : List (List Value)), (ms2.map Mk.d = D2 ∧ V2.length = ms2.length) ∧ lx P os.toArray w0 S2 ms2 (fun a' s' => Full ms2 s'.2 a' s'.1 fun a' L' => ∀ w', Cl w0 L' w' → Q .normal a' w') (fun l' a' s' => Full ms2 s'.2 a' s'.1 fun a' L' => ∀ w', Cl w0 L' w' → LW r m P os.toArray Q l' a' w') ((zs ++ rest).map fun j => ks2.getD j .tail) (pickL os.toArray (zs ++ rest)) a' (L', V2)) ((ord ++ rest).map fun j => ks.getD j .tail) (pickL os.toArray (ord ++ rest)) (fr bs us ds) (L, V)) : CW r m P (Code.region id os.toArray true) Q (fr bs us ds) W := by
  subst hlz
  simp only [regionW, Bool.and_eq_true, beq_iff_eq, decide_eq_true_eq] at hB
  obtain ⟨⟨⟨⟨⟨⟨⟨⟨⟨⟨hsel, hall⟩, hM⟩, hall2⟩, hv⟩, hlen⟩, hzB⟩, hch⟩, hnd⟩, hkz⟩, hlex⟩ := hB
  have hz := zsB_spec hat hzB
  have hchain := zchB_spec hat hch
  have hkz' : ∀ z ∈ l.map (·.1), ks2.getD z .tail = .q := fun z hz => by
    have := List.all_eq_true.1 hkz z hz
    cases hk : ks2.getD z .tail <;> rw [hk] at this <;> first | rfl | cases this
  have hv' : ∀ k ∈ l.map (·.1) ++ (ord ++ rest), k < os.toArray.size := fun k hk => by
    have := List.all_eq_true.1 hv k hk
    rwa [Nat.blt_eq] at this
  have sz : ∀ {k : Mk} {l : List Mk}, (l.all fun k => Nat.blt k.d bs.length) = true → k ∈ l → k.d < (fr bs us ds).tmps.size := fun hl hk => by
    have := List.all_eq_true.1 hl _ hk
    rw [Nat.blt_eq] at this
    simpa [fr, toL_len] using this
  have hZ : ZokL P w0 S L (fr bs us ds) l := ZevL.ok l us hzr
  obtain ⟨T, hT⟩ : ∃ T : Act → List Blk → Prop, T = fun a' L' => ∃ (ms2 : List Mk) (V2 : List (List Value)), (ms2.map Mk.d = D2 ∧ V2.length = ms2.length) ∧ lx P os.toArray w0 S2 ms2 (fun a' s' => Full ms2 s'.2 a' s'.1 fun a' L' => ∀ w', Cl w0 L' w' → Q .normal a' w') (fun l' a' s' => Full ms2 s'.2 a' s'.1 fun a' L' => ∀ w', Cl w0 L' w' → LW r m P os.toArray Q l' a' w') ((l.map (·.1) ++ rest).map fun j => ks2.getD j .tail) (pickL os.toArray (l.map (·.1) ++ rest)) a' (L', V2) := ⟨_, rfl⟩
  rw [← hT] at h
  obtain ⟨ck, hck⟩ : ∃ ck : Array Bool → Bool, ck = fun done => ((l.map (·.1)).all fun z => done.getD z false) && (ix2.all fun i => !(l.map (·.1)).contains i && !done.getD i false) && lexO .any os.toArray (fun j => ks2.getD j .tail) ix2 M (fun o done => seqO .any os.toArray o done) (l.map (·.1) ++ rest) (setA false done (l.map (·.1))) := ⟨_, rfl⟩
  have ne0 : ∀ i, (Array.replicate os.toArray.size false).getD i false = false := fun i => none_done _ _
  have lay2 : ∀ (l : List Nat) (done : Array Bool) (a : Act) (L' : List Blk) (w : World) (ms2 : List Mk) (V2 : List (List Value)), (∀ k ∈ l, k < os.toArray.size) → Closed .any os.toArray done → (∀ i ∈ ix2, done.getD i false = false) → ms2.map Mk.d = D2 → V2.length = ms2.length → a.tmps.size = (fr bs us ds).tmps.size →
      lexO .any os.toArray (fun j => ks2.getD j .tail) ix2 M (fun o done => seqO .any os.toArray o done) l done = true → lx P os.toArray w0 S2 ms2 (fun a' s' => Full ms2 s'.2 a' s'.1 fun a' L' => ∀ w', Cl w0 L' w' → Q .normal a' w') (fun l' a' s' => Full ms2 s'.2 a' s'.1 fun a' L' => ∀ w', Cl w0 L' w' → LW r m P os.toArray Q l' a' w') (l.map fun j => ks2.getD j .tail) (pickL os.toArray l) a (L', V2) → Cl w0 L' w → AW r m P .any os.toArray Q l.length done a w := by
    intro l done a L' w ms2 V2 hl hc hix hD hV2 hsz ht hk hC
    subst hD
    have h1 := anyC_lexO (P := P) (w0 := w0) (S := S2) (ms := ms2) (md := .any) (kd := fun j => ks2.getD j .tail) (ix := ix2) (U := fun f done a s => ∃ o, o.length = f ∧ seqO .any os.toArray o done = true ∧ Full ms2 s.2 a s.1 fun a' L' => ∀ w', Cl w0 L' w' → LW r m P os.toArray Q (pickL os.toArray o) a' w') hM hsel (fun o done a s _ ht hT => ⟨o, rfl, ht, hT⟩) l done a (L', V2) hl hc ht hk
    have h2 := anyC_any (N := a.tmps.size) (P := P) (r := r) (m := m) (Q := Q) (ms := ms2) (allB_spec hall2) (Region.noSelect_spec hsel)
      (fun a s vs Ns w hM hs hC hR => by obtain ⟨L', hp, hk⟩ := Full.use hM hs hR; exact hk w (hC.perm hp)) (fun f done a s vs Ns w hM hs hC _ ⟨o, hf, ht, hT⟩ => by obtain ⟨L', hp, hk⟩ := Full.use hM hs hT; subst hf; exact AW_seqO o done _ w ht (hk w (hC.perm hp))) l.length done a (L', V2) _ _ w (none_made ms2 V2 hV2) (made0 hix) (fun k hk => by rw [hsz]; exact sz (by simpa [List.all_map, Function.comp_def] using hd2) hk) rfl (by
        have : (List.replicate ms2.length ([] : List Blk)).flatten = [] := by simp
        rw [this, List.append_nil]
        exact hC) h1
    rw [none_puts] at h2
    exact h2
  have H : AW r m P .any os.toArray Q os.toArray.size (Array.replicate os.toArray.size false) (fr bs us ds) W.drew := by
    have hc0 : ∀ (l : Zl) (pre : List Nat) (d : Array Bool), Zat os.toArray l → zchain .any pre l → Closed .any os.toArray d → (∀ i ∈ pre, d.getD i false = true) → (∀ x ∈ l, x.1 < d.size) → Closed .any os.toArray (zset d l) := by
      intro l
      induction l with
      | nil => intro pre d _ _ h _ _; exact h
      | cons x l ih =>
        intro pre d hat hch hc hpre hlt
        refine ih (x.1 :: pre) _ hat.2 hch.2.2 ?_ (fun i hi => ?_) (fun y hy => by simpa using hlt y (by simp [hy]))
        · intro j oj hj hd e he hb
          have hmono : ∀ i, d.getD i false = true → (d.setIfInBounds x.1 true).getD i false = true := fun i h => by
            by_cases hx : x.1 = i
            · subst hx; simp [hlt x (by simp)]
            · rw [getD_set_ne false hx]; exact h
          by_cases hjx : x.1 = j
          · subst hjx
            obtain rfl : oj = x.2.1 := Option.some.inj (hj.symm.trans hat.1)
            exact hmono _ (hpre _ (hch.1 e he hb))
          · rw [getD_set_ne false hjx] at hd
            exact hmono _ (hc j oj hj hd e he hb)
        · rcases List.mem_cons.1 hi with rfl | hi
          · simp [hlt x (by simp)]
          · by_cases hx : x.1 = i
            · subst hx; simp [hlt x (by simp)]
            · rw [getD_set_ne false hx]; exact hpre i hi
    have hcl := hc0 l [] (Array.replicate os.toArray.size false) hat hchain (fun j oj _ hd => by rw [ne0] at hd; cases hd) (by simp) (fun x hx => by
      have := hv' x.1 (List.mem_append.2 (.inl (List.mem_map.2 ⟨x, hx, rfl⟩)))
      simpa using this)
    rw [← zset_A] at hlex
    have h1 := anyC_lexO (P := P) (w0 := w0) (S := S) (ms := ms) (md := .any) (kd := fun j => ks.getD j .tail) (ix := ix) (R := fun _ _ => False) (T := fun _ a' s' => Full ms s'.2 a' s'.1 T) (U := fun f done a s => f = rest.length ∧ Closed .any os.toArray done ∧ ck done = true ∧ Full ms s.2 a s.1 T)
      hM hsel (fun o done a s hc ht hT => by
        simp only [Bool.and_eq_true, beq_iff_eq] at ht
        refine ⟨by rw [ht.1], hc, ?_, hT⟩
        rw [hck]
        simp only [Bool.and_eq_true]; exact ht.2) (ord ++ rest) (zset (Array.replicate os.toArray.size false) l) (fr bs us ds) (L, V) (fun k hk => hv' k (List.mem_append.2 (.inr hk))) hcl hlex h
    have h2 := anyC_zs (N := (fr bs us ds).tmps.size) (P := P) (r := r) (m := m) (Q := Q) (L0 := L) (allB_spec hall) (Region.noSelect_spec hsel) l [] _ hz hchain hnd
      (fun p q hpq f done a s vs Ns w hMd hs hC hsz hcq hdq hSZ ⟨hf, hc, ht, hF⟩ => by
        rw [hck] at ht
        simp only [Bool.and_eq_true] at ht
        obtain ⟨⟨hzt, hix⟩, ht⟩ := ht
        obtain ⟨L', hp, hk⟩ := Full.use hMd hs hF
        rw [hT] at hk
        obtain ⟨ms2, V2, ⟨hD, hV2⟩, hk⟩ := hk
        subst hf
        have hmap : l.map (·.1) = p.map (·.1) ++ q.map (·.1) := by rw [hpq, List.map_append]
        have hcd : Closed .any os.toArray done := by
          cases q with
          | nil => exact hc
          | cons y q => exact hcq (by simp)
        have hback : setA true (setA false (zset done q) (l.map (·.1))) (p.map (·.1)) = done := by
          rw [hmap, zset_A]
          refine setA_back (fun i hi => ?_) (fun i hi => ?_) (by rw [← hmap]; exact hnd)
          · obtain ⟨y, hy, rfl⟩ := List.mem_map.1 hi
            exact hdq y hy
          · rw [← hmap] at hi
            rw [← zset_A]
            exact List.all_eq_true.1 hzt i hi
        rw [hmap, List.append_assoc] at hk
        rw [hmap, List.append_assoc, ← hmap] at ht
        have ht' := lexO_peel (p.map (·.1)) (fun z hz => hkz' z (by rw [hmap]; simp only [List.mem_append]; exact .inl hz)) ht
        rw [hback] at ht'
        have hln : rest.length + q.length = (q.map (·.1) ++ rest).length := by simp [Nat.add_comm]
        rw [hln]
        refine lay2 (q.map (·.1) ++ rest) done _ L' w ms2 V2 (fun k hk => hv' k ?_) hcd (fun i hi => ?_) hD hV2 (by rw [puts_size, zput_size, hsz]) ht' ?_ (hC.perm hp)
        · rcases List.mem_append.1 hk with h | h
          · exact List.mem_append.2 (.inl (by rw [hmap]; exact List.mem_append.2 (.inr h)))
          · exact List.mem_append.2 (.inr (List.mem_append.2 (.inr h)))
        · have := List.all_eq_true.1 hix i hi
          simp only [Bool.and_eq_true, Bool.not_eq_true'] at this
          have h2 := this.2
          rw [zset_ne q false fun y hy e => ?_] at h2
          · exact h2
          · have h3 := this.1
            have : (l.map (·.1)).contains i = true := by
              rw [List.contains_iff_mem, ← e, hmap]
              exact List.mem_append.2 (.inr (List.mem_map.2 ⟨y, hy, rfl⟩))
            rw [this] at h3; cases h3
        · cases p with
          | nil => exact hk
          | cons x p =>
            obtain ⟨hS, hZ⟩ := hSZ (by rw [hpq]; simp)
            have hZp : ∀ (p q : Zl) (a : Act), ZokL P w0 S L a (p ++ q) → ZokL P w0 S L a p := by
              intro p
              induction p with
              | nil => intro q a _; trivial
              | cons y p ih => intro q a h; exact ⟨h.1, ih q _ h.2⟩
            rw [hpq] at hZ
            refine lx_peel (kd := fun j => ks2.getD j .tail) (hC.perm hp) ⟨_, hS.trans (Sim.more S s.1 Ns.flatten), hC⟩ (Region.noSelect_spec hsel) (x :: p) (q.map (·.1) ++ rest) a (fun y hy => ?_) (fun y hy => ?_) (hZp _ _ _ hZ) hk
            · have hyl : y ∈ l := by rw [hpq]; exact List.mem_append.2 (.inl hy)
              exact ⟨(hz y hyl).at_, (hz y hyl).guard, (hz y hyl).ds⟩
            · exact hkz' y.1 (List.mem_map.2 ⟨y, by rw [hpq]; exact List.mem_append.2 (.inl hy), rfl⟩))
      (ord ++ rest).length (Array.replicate os.toArray.size false) (fr bs us ds) (L, V) _ _ W.drew (Sim.refl _ _) hZ (fun j oj _ hd => by rw [ne0] at hd; cases hd) (fun x hx => by
        have := hv' x.1 (List.mem_append.2 (.inl (List.mem_map.2 ⟨x, hx, rfl⟩)))
        simp only [List.size_toArray] at this
        simp [this]) (by simp) (none_made ms V hV) (made0 fun i _ => none_done _ _) (fun k hk => sz hd hk) rfl (by
        have : (List.replicate ms.length ([] : List Blk)).flatten = [] := by simp
        rw [this, List.append_nil]
        exact hW.drew) h1
    rw [none_puts] at h2
    have hl2 : (ord ++ rest).length + l.length = os.toArray.size := by rw [← hlen, List.length_map]
    rw [hl2] at h2
    exact h2
  cases r with
  | none => exact wp_region_any hm H
  | some k => exact wpIn_region_any hm H
end
end Go.Proofs.Ytoegpalacppllaa

/- A region that draws its order, with a new variable that may be made at any time beside the rest. No function of the program is in sight here. -/
namespace Go.Proofs.Ytoegpalacppllaa
open Go.RowKit

section
variable {P : Program} {ops : Array Oper} {Q : Exit → Act → World → Prop} {a : Act} {w0 : Base} {W : World} {L : List Blk} {md : Region.Mode} {S : List Nat} {r : Option (Option Nat)} {m : Nat} {ms : List Mk} {bs : List Value} {us : List (Nat × Value)} {ds : List Deferred}

def noS : Kd → Bool
  | .s => false
  | _ => true
/-- more blocks behind those that are known -/
theorem StepK.more {k : Kd} {o : Oper} {s s' : St} {v : Value} (E : List Blk) (hk : noS k = true) (h : StepK P ops w0 S ms k o a s v s') : StepK P ops w0 S ms k o a (s.1 ++ E, s.2) v (s'.1 ++ E, s'.2) := by
  have hs : ∀ {L2}, Sim S (s.1 ++ E) L2 → Sim S s.1 L2 := fun h => (Sim.more S s.1 E).trans h
  cases k with
  | q => exact ⟨fun L2 hL => h.1 L2 (hs hL), by rw [h.2]⟩
  | r => exact ⟨fun N => by rw [List.append_assoc]; exact h.1 (E ++ N), by rw [h.2]⟩
  | s => cases hk
  | mk i =>
    obtain ⟨h1, h2, k, z, h3, h4, h5⟩ := h
    exact ⟨h1, by rw [h2], k, z, h3, h4, fun L2 hL => h5 L2 (hs hL)⟩
  | mkd i j =>
    obtain ⟨h1, h2, k, z, kj, zj, h3, h4, h5, h6, h7⟩ := h
    exact ⟨h1, by rw [h2], k, z, kj, zj, h3, h4, h5, h6, fun u Bs L2 hL hX => h7 u Bs L2 (hs hL) hX⟩
  | st i =>
    obtain ⟨h1, k, vs, h3, h4, h5⟩ := h
    exact ⟨h1, k, vs, h3, h4, by rw [h5]⟩
  | rd i =>
    obtain ⟨h1, k, z, h3, h4, h5⟩ := h
    exact ⟨by rw [h1], k, z, h3, h4, fun u Bs L2 hL hX => h5 u Bs L2 (hs hL) hX⟩
  | tail => exact h.elim
/-- what is asked of the operation that makes it -/
structure Alc (md : Region.Mode) (ops : Array Oper) (ms : List Mk) (ix : List Nat) (kd : Nat → Kd) (z : Nat) (oz : Oper) (d : Tmp) : Prop where
  at_ : ops[z]? = some oz
  guard : oz.guard = none
  after : ∀ e ∈ oz.after, Region.binds md e = false
  dst : oz.dst = some d
  apart : ∀ (j : Nat) oj, ops[j]? = some oj → j ≠ z → (kd j).isTail = false → oz.apart ops oj = true
  ds : ∀ k ∈ ms, oz.dst ≠ some k.d
  ix : ∀ i ∈ ix, i ≠ z
def alB (md : Region.Mode) (ops : Array Oper) (D ix : List Nat) (kd : Nat → Kd) (z d : Nat) : Bool := match ops[z]? with
  | some oz => oz.guard.isNone && oz.after.all (fun e => !Region.binds md e) && D.all (fun d => oz.dst != some d) && (oz.dst == some d) &&
      ((List.range ops.size).all fun j => j == z || (kd j).isTail || match ops[j]? with | some oj => oz.apart ops oj | none => true) && ix.all (fun i => !(i == z))
  | none => false
theorem alB_spec {ix : List Nat} {kd : Nat → Kd} {z d : Nat} (h : alB md ops (ms.map Mk.d) ix kd z d = true) : ∃ oz, Alc md ops ms ix kd z oz d := by
  unfold alB at h
  cases hz : ops[z]? with
  | none => rw [hz] at h; cases h
  | some oz =>
    rw [hz] at h
    simp only [Bool.and_eq_true, Option.isNone_iff_eq_none, beq_iff_eq] at h
    obtain ⟨⟨⟨⟨⟨h1, h2⟩, h3⟩, h6⟩, h4⟩, h5⟩ := h
    refine ⟨oz, hz, h1, fun e he => ?_, h6, fun j oj hj hne ht => ?_, fun k hk => ?_, fun i hi e => ?_⟩
    · have := Array.all_eq_true_iff_forall_mem.1 h2 e he
      simpa using this
    · have := List.all_eq_true.1 h4 j (List.mem_range.2 (Array.getElem?_eq_some_iff.1 hj).1)
      rw [hj] at this
      simpa [hne, ht] using this
    · have := List.all_eq_true.1 h3 k.d (List.mem_map.2 ⟨k, hk, rfl⟩)
      simpa using this
    · have := List.all_eq_true.1 h5 i hi
      simp [e] at this
/-- the variable is there, though no operation of this layer looks at it -/
theorem anyC_al {N : Nat} {kd : Nat → Kd} {ix : List Nat} {U : Nat → Array Bool → Act → St → Prop} {z : Nat} {oz : Oper} {d : Tmp} (hsel : ∀ (j : Nat) (o : Oper) cs b, ops[j]? = some o → o.op ≠ .select cs b) (hz : Alc md ops ms ix kd z oz d) (hns : ∀ i, noS (kd i) = true) (E : List Blk) (u : Value) : ∀ (f : Nat) (done : Array Bool) (a : Act) (s : St), done.getD z false = true → a.tmps.size = N →
    anyC P md ops w0 S ms kd ix (fun _ _ => False) U f done a s → anyC P md ops w0 S ms kd ix (fun _ _ => False) (fun f done a1 s1 => ∃ a0 s0, a1 = a0.put oz.dst u ∧ s1 = (s0.1 ++ E, s0.2) ∧ a0.tmps.size = N ∧ U f done a0 s0) f done (a.put oz.dst u) (s.1 ++ E, s.2) := by
  intro f
  induction f with
  | zero => intro done a s _ _ h; exact h.2.2.elim
  | succ f ih =>
    intro done a s hd hN h
    refine ⟨h.1, h.2.imp (fun ⟨x, y, hu⟩ => ⟨x, y, a, s, rfl, rfl, hN, hu⟩) fun h2 i hi => ?_⟩
    obtain ⟨oi, ho, v, s', hk, hn⟩ := h2 i hi
    have hiz : i ≠ z := fun e => by
      subst e
      have h1 := (mem_ready.1 hi).1
      have hlt := getD_true_lt hd
      simp only [Array.getD_eq_getD_getElem?, Array.getElem?_eq_getElem hlt, Option.getD_some] at h1 hd
      rw [hd] at h1; cases h1
    cases ht : (kd i).isTail with
    | true =>
      have e : kd i = .tail := by cases hkd : kd i <;> rw [hkd] at ht <;> simp [Kd.isTail] at ht <;> rfl
      rw [e] at hk; exact hk.elim
    | false =>
      obtain ⟨h1, h2', _⟩ := Oper.apart_spec (hz.apart i oi ho hiz ht)
      refine ⟨oi, ho, v, (s'.1 ++ E, s'.2), (StepK.eq (hsel i oi · · ho) h1).2 (hk.more E (hns i)), ?_⟩
      have hc : putK (kd i) (a.put oz.dst u) oi.dst v = (putK (kd i) a oi.dst v).put oz.dst u := putK_comm (a := a) (j := Kd.q) (k := kd i) (x := oz.dst) (y := oi.dst) u v h2'
      rw [hc]
      have hsz2 : (putK (kd i) a oi.dst v).tmps.size = a.tmps.size := by cases kd i <;> simp [putK, put_size]
      exact ih (done.setIfInBounds i true) (putK (kd i) a oi.dst v) s' (by rw [getD_set_ne false hiz]; exact hd) (by rw [hsz2]; exact hN) hn

theorem anyC_v {N : Nat} {kd : Nat → Kd} {ix : List Nat} {U : Nat → Array Bool → Act → St → Prop} {z : Nat} {oz : Oper} {d : Tmp} {t : TypeId} {zc : List Value} (hA : AllB md ops ms ix kd) (hsel : ∀ (j : Nat) (o : Oper) cs b, ops[j]? = some o → o.op ≠ .select cs b) (hz : Alc md ops ms ix kd z oz d) (hns : ∀ i, noS (kd i) = true)
    (hal : ∀ ρ w, (execOp ρ oz).run P w = .ok (.value (.pointer (some ⟨w.heap.size, 0, none⟩))) (w.alloc (.cells zc.toArray t)))
    (hT1 : ∀ f done a s vs Ns w g, Made ms s.2 vs Ns → (∀ v ∈ vs, v.isSome = true) → Cl w0 ((s.1 ++ [⟨g, zc, t⟩]) ++ Ns.flatten) w → a.tmps.size = N → U f done a s → AW r m P md ops Q f done (puts (a.put oz.dst (.pointer (some ⟨g, 0, none⟩))) ms vs) w)
    (hT2 : ∀ f done a s vs Ns w, Made ms s.2 vs Ns → (∀ v ∈ vs, v.isSome = true) → Cl w0 (s.1 ++ Ns.flatten) w → a.tmps.size = N → Closed md ops done → done.getD z true = false → U f (done.setIfInBounds z true) a s → AW r m P md ops Q (f + 1) done (puts a ms vs) w) (f : Nat) :
    ∀ (done : Array Bool) (a : Act) (s : St) (vs : List (Option Value)) (Ns : List (List Blk)) (w : World), Closed md ops done → done.getD z true = false → Made ms s.2 vs Ns → (∀ (q i : Nat), ix[q]? = some i → ((∃ v, vs[q]? = some (some v)) ↔ done.getD i false = true)) → (∀ m ∈ ms, m.d < a.tmps.size) → a.tmps.size = N →
      Cl w0 (s.1 ++ Ns.flatten) w → anyC P md ops w0 S ms kd ix (fun _ _ => False) U f (done.setIfInBounds z true) a s → AW r m P md ops Q (f + 1) done (puts a ms vs) w := by
  have relz : ∀ {done : Array Bool} {vs : List (Option Value)}, (∀ (q i : Nat), ix[q]? = some i → ((∃ v, vs[q]? = some (some v)) ↔ done.getD i false = true)) → ∀ (q i : Nat), ix[q]? = some i → ((∃ v, vs[q]? = some (some v)) ↔ (done.setIfInBounds z true).getD i false = true) := fun hrel q i hq => by
    rw [getD_set_ne false (Ne.symm (hz.ix i (List.mem_of_getElem? hq)))]; exact hrel q i hq
  have zstep : ∀ (f : Nat) (done : Array Bool) (a : Act) (s : St) (vs : List (Option Value)) (Ns : List (List Blk)) (w : World), Made ms s.2 vs Ns → (∀ (q i : Nat), ix[q]? = some i → ((∃ v, vs[q]? = some (some v)) ↔ done.getD i false = true)) → (∀ m ∈ ms, m.d < a.tmps.size) → a.tmps.size = N →
      Cl w0 (s.1 ++ Ns.flatten) w → done.getD z true = false → anyC P md ops w0 S ms kd ix (fun _ _ => False) U f (done.setIfInBounds z true) a s → OW r m P ops Q z (AW r m P md ops Q f (done.setIfInBounds z true)) (puts a ms vs) w := by
    intro f done a s vs Ns w hM hrel hsz hN hC hd h
    refine OW.val hz.at_ (by simp [Region.wanted, hz.guard]) (hal _ w) ?_
    rw [puts_put ms vs a hz.ds]
    have h2 := anyC_al (N := N) hsel hz hns [⟨w.heap.size, zc, t⟩] (.pointer (some ⟨w.heap.size, 0, none⟩)) f (done.setIfInBounds z true) a s (by simp [getD_false_lt hd]) hN h
    refine anyC_any (N := N) hA hsel (fun _ _ _ _ _ _ _ _ h => h.elim) ?_ f _ _ (s.1 ++ [⟨w.heap.size, zc, t⟩], s.2) vs Ns (w.alloc (.cells zc.toArray t)) hM (relz hrel) (fun m hm => by rw [put_size]; exact hsz m hm) (by rw [put_size]; exact hN) ((hC.alloc zc t).perm ?_) h2
    · rintro f done _ _ vs Ns w' hM hs hC _ ⟨a0, s0, rfl, rfl, hN0, hU⟩
      exact hT1 f done a0 s0 vs Ns w' _ hM hs hC hN0 hU
    · exact (List.perm_append_singleton _ _).symm.trans (by
        rw [List.append_assoc, List.append_assoc]
        exact List.Perm.append_left _ List.perm_append_comm)
  have zready : ∀ {done : Array Bool}, done.getD z true = false → z ∈ Region.ready md ops done := fun hd => mem_ready.2 ⟨hd, oz, hz.at_, fun e he hb => by rw [hz.after e he] at hb; cases hb⟩
  induction f with
  | zero => intro done a s vs Ns w _ _ _ _ _ _ _ h; exact h.2.2.elim
  | succ f ih =>
    intro done a s vs Ns w hc hd hM hrel hsz hN hC h
    rcases h.2 with ⟨_, hmade, hU⟩ | h2
    · exact hT2 _ done a s vs Ns w hM (mk_full hA hM.len (relz hrel) hmade) hC hN hc hd hU
    refine AW.succ (List.ne_nil_of_mem (zready hd)) fun i hi => ?_
    by_cases hiz : i = z
    · subst hiz
      exact zstep (f + 1) done a s vs Ns w hM hrel hsz hN hC hd h
    · obtain ⟨oi, ho, v, s', hk, hn⟩ := h2 i (ready_mono hi hiz)
      refine step_any hA hsel hM hrel hsz hC hi ho hk fun vs' Ns' w' hM' hrel' hC' => ?_
      have hsz2 : (putK (kd i) a oi.dst v).tmps.size = a.tmps.size := by cases kd i <;> simp [putK, put_size]
      exact ih (done.setIfInBounds i true) _ s' vs' Ns' w' (hc.set hi) (by rw [getD_set_ne true hiz]; exact hd) hM' hrel' (fun m hm => by rw [hsz2]; exact hsz m hm) (by rw [hsz2]; exact hN) hC' (by rw [Array.setIfInBounds_comm _ _ hiz]; exact hn)

def regionV (ops : Array Oper) (ks ks2 : List Kd) (D ix M D2 ix2 ord rest : List Nat) (z d : Nat) : Bool :=
  Region.noSelect ops && allB .any ops D ix (fun j => ks.getD j .tail) && masksB .any ops M && allB .any ops (d :: D2) (z :: ix2) (fun j => ks2.getD j .tail) && ((z :: (ord ++ rest)).all fun k => Nat.blt k ops.size) && ((ord ++ rest).length + 1 == ops.size) &&
    alB .any ops D ix (fun j => ks.getD j .tail) z d && ks.all noS && (match ks2.getD z .tail with | .mk 0 => true | _ => false) &&
    lexO .any ops (fun j => ks.getD j .tail) ix M (fun o done => (o == rest) && (done.getD z false && (ix2.all fun i => !(i == z) && !done.getD i false) && lexO .any ops (fun j => ks2.getD j .tail) (z :: ix2) M (fun o done => seqO .any ops o done) (z :: rest) (done.setIfInBounds z false))) (ord ++ rest) ((Array.replicate ops.size false).setIfInBounds z true)
/-- makers first; then, beside a new variable that may be made at any time: whatever order again, its last operations in order -/
theorem c_regV (hW : Cl w0 L W) {id : Nat} {os : List Oper} {oz : Oper} {t n : Nat} {zc : List Value} (S : List Nat) (ks : List Kd) (ms : List Mk) (V : List (List Value)) (ix M S2 : List Nat) (ks2 : List Kd) (D2 ix2 ord rest : List Nat) (z d : Nat) (hm : P.follows .mixedOrders = true) (hB : regionV os.toArray ks ks2 (ms.map Mk.d) ix M D2 ix2 ord rest z d = true) (hV : V.length = ms.length) (hd : (ms.all fun k => Nat.blt k.d bs.length) = true) (hd2 : ((d :: D2).all fun k => Nat.blt k bs.length) = true)
    (hoz : os[z]? = some oz) (hal : ∀ ρ w, (execOp ρ oz).run P w = .ok (.value (.pointer (some ⟨w.heap.size, 0, none⟩))) (w.alloc (.cells zc.toArray t))) (hzn : zc.length = n)
    (h : lx P os.toArray w0 S ms (fun _ _ => False)
      (fun _ a' s' => Full ms s'.2 a' s'.1 fun a' L' => ∃ (ms2 : List Mk) (V2 : List (List Value)), (ms2.map Mk.d = D2 ∧ V2.length = ms2.length) ∧ lx P os.toArray w0 S2 (⟨d, allocX t n⟩ :: ms2) (fun a' s' => Full (⟨d, allocX t n⟩ :: ms2) s'.2 a' s'.1 fun a' L' => ∀ w', Cl w0 L' w' → Q .normal a' w') (fun l' a' s' => Full (⟨d, allocX t n⟩ :: ms2) s'.2 a' s'.1 fun a' L' => ∀ w', Cl w0 L' w' → LW r m P os.toArray Q l' a' w') ((z :: rest).map fun j => ks2.getD j .tail) (pickL os.toArray (z :: rest)) a' (L', zc :: V2)) ((ord ++ rest).map fun j => ks.getD j .tail) (pickL os.toArray (ord ++ rest)) (fr bs us ds) (L, V)) : CW r m P (Code.region id os.toArray true) Q (fr bs us ds) W := by
  simp only [regionV, Bool.and_eq_true, beq_iff_eq] at hB
  obtain ⟨⟨⟨⟨⟨⟨⟨⟨⟨hsel, hall⟩, hM⟩, hall2⟩, hv⟩, hlen⟩, hzB⟩, hnS⟩, hkz⟩, hlex⟩ := hB
  obtain ⟨oz', hz⟩ := alB_spec hzB
  have hoz' : oz' = oz := by
    have h1 := hz.at_
    simp only [List.getElem?_toArray] at h1
    rw [hoz] at h1; injection h1 with h1; exact h1.symm
  subst hoz'
  have hns : ∀ i, noS (ks.getD i .tail) = true := fun i => by
    rcases Nat.lt_or_ge i ks.length with hi | hi
    · rw [List.getD_eq_getElem?_getD, List.getElem?_eq_getElem hi]
      exact List.all_eq_true.1 hnS _ (List.getElem_mem hi)
    · rw [List.getD_eq_getElem?_getD, List.getElem?_eq_none hi]; rfl
  have hkz' : ks2.getD z .tail = .mk 0 := by
    cases hk : ks2.getD z .tail with
    | mk i =>
      rw [hk] at hkz
      cases i with
      | zero => rfl
      | succ i => cases hkz
    | _ => rw [hk] at hkz; cases hkz
  have hv' : ∀ k ∈ z :: (ord ++ rest), k < os.toArray.size := fun k hk => by
    have := List.all_eq_true.1 hv k hk
    rwa [Nat.blt_eq] at this
  have hzlt := hv' z (by simp)
  have sz : ∀ {k : Mk} {l : List Mk}, (l.all fun k => Nat.blt k.d bs.length) = true → k ∈ l → k.d < (fr bs us ds).tmps.size := fun hl hk => by
    have := List.all_eq_true.1 hl _ hk
    rw [Nat.blt_eq] at this
    simpa [fr, toL_len] using this
  obtain ⟨T, hT⟩ : ∃ T : Act → List Blk → Prop, T = fun a' L' => ∃ (ms2 : List Mk) (V2 : List (List Value)), (ms2.map Mk.d = D2 ∧ V2.length = ms2.length) ∧ lx P os.toArray w0 S2 (⟨d, allocX t n⟩ :: ms2) (fun a' s' => Full (⟨d, allocX t n⟩ :: ms2) s'.2 a' s'.1 fun a' L' => ∀ w', Cl w0 L' w' → Q .normal a' w') (fun l' a' s' => Full (⟨d, allocX t n⟩ :: ms2) s'.2 a' s'.1 fun a' L' => ∀ w', Cl w0 L' w' → LW r m P os.toArray Q l' a' w') ((z :: rest).map fun j => ks2.getD j .tail) (pickL os.toArray (z :: rest)) a' (L', zc :: V2) := ⟨_, rfl⟩
  rw [← hT] at h
  obtain ⟨ck, hck⟩ : ∃ ck : Array Bool → Bool, ck = fun done => done.getD z false && (ix2.all fun i => !(i == z) && !done.getD i false) && lexO .any os.toArray (fun j => ks2.getD j .tail) (z :: ix2) M (fun o done => seqO .any os.toArray o done) (z :: rest) (done.setIfInBounds z false) := ⟨_, rfl⟩
  have ne0 : ∀ i, (Array.replicate os.toArray.size false).getD i false = false := fun i => none_done _ _
  -- what is left of a second layer
  have lay2 : ∀ (l : List Nat) (done : Array Bool) (a : Act) (L' : List Blk) (w : World) (ms2 : List Mk) (V2 : List (List Value)) (vs : List (Option Value)) (Ns : List (List Blk)), (∀ k ∈ l, k < os.toArray.size) → Closed .any os.toArray done → Made (⟨d, allocX t n⟩ :: ms2) (zc :: V2) vs Ns → (∀ (q i : Nat), (z :: ix2)[q]? = some i → ((∃ v, vs[q]? = some (some v)) ↔ done.getD i false = true)) → ms2.map Mk.d = D2 → a.tmps.size = (fr bs us ds).tmps.size →
      lexO .any os.toArray (fun j => ks2.getD j .tail) (z :: ix2) M (fun o done => seqO .any os.toArray o done) l done = true → lx P os.toArray w0 S2 (⟨d, allocX t n⟩ :: ms2) (fun a' s' => Full (⟨d, allocX t n⟩ :: ms2) s'.2 a' s'.1 fun a' L' => ∀ w', Cl w0 L' w' → Q .normal a' w') (fun l' a' s' => Full (⟨d, allocX t n⟩ :: ms2) s'.2 a' s'.1 fun a' L' => ∀ w', Cl w0 L' w' → LW r m P os.toArray Q l' a' w') (l.map fun j => ks2.getD j .tail) (pickL os.toArray l) a (L', zc :: V2) → Cl w0 (L' ++ Ns.flatten) w → AW r m P .any os.toArray Q l.length done (puts a (⟨d, allocX t n⟩ :: ms2) vs) w := by
    intro l done a L' w ms2 V2 vs Ns hl hc hMd hrel hD hsz ht hk hC
    subst hD
    have h1 := anyC_lexO (P := P) (w0 := w0) (S := S2) (ms := ⟨d, allocX t n⟩ :: ms2) (md := .any) (kd := fun j => ks2.getD j .tail) (ix := z :: ix2) (U := fun f done a s => ∃ o, o.length = f ∧ seqO .any os.toArray o done = true ∧ Full (⟨d, allocX t n⟩ :: ms2) s.2 a s.1 fun a' L' => ∀ w', Cl w0 L' w' → LW r m P os.toArray Q (pickL os.toArray o) a' w') hM hsel (fun o done a s _ ht hT => ⟨o, rfl, ht, hT⟩) l done a (L', zc :: V2) hl hc ht hk
    have hall2' : allB .any os.toArray ((⟨d, allocX t n⟩ :: ms2 : List Mk).map Mk.d) (z :: ix2) (fun j => ks2.getD j .tail) = true := hall2
    exact anyC_any (N := a.tmps.size) (P := P) (r := r) (m := m) (Q := Q) (ms := ⟨d, allocX t n⟩ :: ms2) (allB_spec hall2') (Region.noSelect_spec hsel)
      (fun a s vs Ns w hM hs hC hR => by obtain ⟨L', hp, hk⟩ := Full.use hM hs hR; exact hk w (hC.perm hp)) (fun f done a s vs Ns w hM hs hC _ ⟨o, hf, ht, hT⟩ => by obtain ⟨L', hp, hk⟩ := Full.use hM hs hT; subst hf; exact AW_seqO o done _ w ht (hk w (hC.perm hp))) l.length done a (L', zc :: V2) vs Ns w hMd hrel (fun k hk => by rw [hsz]; exact sz (l := ⟨d, allocX t n⟩ :: ms2) (by simpa [List.all_map, Function.comp_def] using hd2) hk) rfl hC h1
  have H : AW r m P .any os.toArray Q os.toArray.size (Array.replicate os.toArray.size false) (fr bs us ds) W.drew := by
    have hc0 : Closed .any os.toArray ((Array.replicate os.toArray.size false).setIfInBounds z true) := fun j oj hj hd e he hb => by
      by_cases hjz : z = j
      · subst hjz
        obtain rfl : oj = oz' := Option.some.inj (hj.symm.trans hz.at_)
        rw [hz.after e he] at hb; cases hb
      · rw [getD_set_ne false hjz, ne0] at hd; cases hd
    have h1 := anyC_lexO (P := P) (w0 := w0) (S := S) (ms := ms) (md := .any) (kd := fun j => ks.getD j .tail) (ix := ix) (R := fun _ _ => False) (T := fun _ a' s' => Full ms s'.2 a' s'.1 T) (U := fun f done a s => f = rest.length ∧ Closed .any os.toArray done ∧ ck done = true ∧ Full ms s.2 a s.1 T)
      hM hsel (fun o done a s hc ht hT => by
        simp only [Bool.and_eq_true, beq_iff_eq] at ht
        refine ⟨by rw [ht.1], hc, ?_, hT⟩
        rw [hck]
        simp only [Bool.and_eq_true]; exact ht.2) (ord ++ rest) ((Array.replicate os.toArray.size false).setIfInBounds z true) (fr bs us ds) (L, V) (fun k hk => hv' k (by simp only [List.mem_cons]; exact .inr hk)) hc0 hlex h
    have relr : ∀ {done : Array Bool} {b : Bool}, (ix2.all fun i => !(i == z) && !(done.getD i false)) = true → done.getD z false = b → ∀ (vs : List (Option Value)) (v0 : Option Value), v0.isSome = b → (∀ v ∈ vs, v = none) → ∀ (q i : Nat), (z :: ix2)[q]? = some i → ((∃ v, (v0 :: vs)[q]? = some (some v)) ↔ done.getD i false = true) := by
      intro done b hix hb vs v0 hv0 hvs q i hq
      cases q with
      | zero =>
        simp only [List.getElem?_cons_zero, Option.some.injEq] at hq ⊢
        subst hq
        rw [hb, ← hv0]
        cases v0 <;> simp
      | succ q =>
        simp only [List.getElem?_cons_succ] at hq ⊢
        have := List.all_eq_true.1 hix i (List.mem_of_getElem? hq)
        simp only [Bool.and_eq_true, Bool.not_eq_true'] at this
        rw [this.2]
        constructor
        · rintro ⟨v, hv⟩
          have := hvs _ (List.mem_of_getElem? hv)
          cases this
        · intro h; cases h
    have h2 := anyC_v (N := (fr bs us ds).tmps.size) (P := P) (r := r) (m := m) (Q := Q) (allB_spec hall) (Region.noSelect_spec hsel) hz hns hal
      (fun f done a s vs Ns w g hMd hs hC hsz ⟨hf, hc, ht, hF⟩ => by
        rw [hck] at ht
        simp only [Bool.and_eq_true] at ht
        obtain ⟨⟨hzt, hix⟩, ht⟩ := ht
        obtain ⟨L', hp, hk⟩ := Full.use hMd hs hF
        rw [hT] at hk
        obtain ⟨ms2, V2, ⟨hD, hV2⟩, hk⟩ := hk
        subst hf
        have hpick : pickL os.toArray (z :: rest) = oz' :: pickL os.toArray rest := by simp only [pickL, hz.at_]
        rw [List.map_cons, hkz', hpick] at hk
        obtain ⟨v, s2, ⟨_, rfl, _⟩, hk⟩ := hk
        simp only [putK] at hk
        have ht' : lexO .any os.toArray (fun j => ks2.getD j .tail) (z :: ix2) M (fun o done => seqO .any os.toArray o done) rest done = true := by
          rw [lexO, hkz'] at ht
          simp only [Bool.and_eq_true] at ht
          rw [set_again hzt] at ht
          exact ht.2
        have h3 := lay2 rest done (puts a ms vs) L' w ms2 V2 (some (.pointer (some ⟨g, 0, none⟩)) :: List.replicate ms2.length none) ([⟨g, zc, t⟩] :: List.replicate ms2.length []) (fun k hk => hv' k (by simp [hk])) hc (.yes ⟨g, rfl, rfl, hzn⟩ (none_made ms2 V2 hV2))
          (relr hix hzt _ _ rfl (fun v hv => List.eq_of_mem_replicate hv)) hD (by rw [puts_size, hsz]) ht' hk (hC.perm (by
            have : (List.replicate ms2.length ([] : List Blk)).flatten = [] := by simp
            rw [List.flatten_cons, this, List.append_nil, List.append_assoc]
            exact (List.Perm.append_left _ List.perm_append_comm).trans (by rw [← List.append_assoc]; exact hp.append_right _)))
        rw [puts, none_puts, puts_put ms vs a (by rw [← hz.dst]; exact hz.ds), ← hz.dst] at h3
        exact h3)
      (fun f done a s vs Ns w hMd hs hC hsz hc hd ⟨hf, _, ht, hF⟩ => by
        rw [hck] at ht
        simp only [Bool.and_eq_true] at ht
        obtain ⟨⟨-, hix⟩, ht⟩ := ht
        rw [set_back hd] at ht
        obtain ⟨L', hp, hk⟩ := Full.use hMd hs hF
        rw [hT] at hk
        obtain ⟨ms2, V2, ⟨hD, hV2⟩, hk⟩ := hk
        subst hf
        have hix' : (ix2.all fun i => !(i == z) && !(done.getD i false)) = true := List.all_eq_true.2 fun i hi => by
          have := List.all_eq_true.1 hix i hi
          simp only [Bool.and_eq_true, Bool.not_eq_true', beq_eq_false_iff_ne] at this ⊢
          rw [getD_set_ne false (Ne.symm this.1)] at this
          exact this
        have h3 := lay2 (z :: rest) done (puts a ms vs) L' w ms2 V2 (none :: List.replicate ms2.length none) ([] :: List.replicate ms2.length []) (fun k hk => hv' k (by
          rcases List.mem_cons.1 hk with rfl | hk
          · simp
          · simp [hk])) hc (.no (none_made ms2 V2 hV2)) (relr hix' (getD_false_both hd) _ _ rfl (fun v hv => List.eq_of_mem_replicate hv)) hD (by rw [puts_size, hsz]) ht hk (hC.perm (by
            have : (List.replicate ms2.length ([] : List Blk)).flatten = [] := by simp
            rw [List.flatten_cons, this, List.append_nil, List.append_nil]
            exact hp))
        rw [puts, none_puts] at h3
        exact h3)
      (ord ++ rest).length (Array.replicate os.toArray.size false) (fr bs us ds) (L, V) _ _ W.drew (fun j oj _ hd => by rw [ne0] at hd; cases hd) (by simp only [List.size_toArray] at hzlt; simp [hzlt]) (none_made ms V hV) (made0 fun i _ => none_done _ _) (fun k hk => sz hd hk) rfl (by
        have : (List.replicate ms.length ([] : List Blk)).flatten = [] := by simp
        rw [this, List.append_nil]
        exact hW.drew) h1
    rw [none_puts, hlen] at h2
    exact h2
  cases r with
  | none => exact wp_region_any hm H
  | some k => exact wpIn_region_any hm H
theorem al_agg {o : Oper} {t : TypeId} {zc : List Value} (hz : TyZ P t (.agg zc.toArray)) (ho : o.op = .alloc t) : ∀ ρ w, (execOp ρ o).run P w = .ok (.value (.pointer (some ⟨w.heap.size, 0, none⟩))) (w.alloc (.cells zc.toArray t)) := fun ρ w => by
  unfold execOp
  simp only [ho, Instr.alloc, newVar, newRow, Value.cells, Sem.run_bind, Sem.run_pure, hz w, run_newObj, Result.andThen_ok]
  rfl
end
end Go.Proofs.Ytoegpalacppllaa

/- What is heard, by the program. -/
namespace Go.Proofs.Ytoegpalacppllaa
open Go.RowKit Pl
open Tr Hn
set_option maxRecDepth 10000 in
set_option maxHeartbeats 1000000 in
/-- headend/trace.Hear -/
theorem g_HearN (h : Hu) (pa : Option Addr) (pn pc : Nat) (r q : Sl) (ss : List Sl) (n : Nat) (hsm : Small h) (hfit : pn * 48 ≤ 140737488351232) : GivesX Try.prog 23 [.agg [.int .i64 h.users, .slice pa pn pc, .slice r.a r.n r.c, .slice q.a q.n q.c, .int .i64 h.rounds].toArray, .int .i64 (n : Int)].toArray (fun w => RdHu w h ⟨pa, pn, pc⟩ r q ss) (fun v Bs => ∃ a, v = .tuple #[a, .int .i64 ((hear h (n : Int)).2 : Int)] ∧ huX (hear h (n : Int)).1 a Bs) := by
  refine givesX_of Try.func23 rfl (bs := [.agg [.int .i64 h.users, .slice pa pn pc, .slice r.a r.n r.c, .slice q.a q.n q.c, .int .i64 h.rounds].toArray, .int .i64 (n : Int), undef, undef, undef, undef, undef, undef, undef, undef, undef, undef, undef, undef, undef, undef, undef, undef, undef, undef, undef, undef, undef, undef, undef, undef, undef, undef, undef, undef, undef, undef, undef, undef, undef, undef, undef, undef, undef, undef, undef, undef, undef, undef, undef, undef, undef, undef, undef, undef, undef, undef, undef, undef, undef, undef, undef, undef, undef, undef, undef, undef, undef, undef, undef, undef, undef, undef, undef, undef, undef, undef, undef, undef, undef, undef, undef, undef, undef, undef, undef, undef, undef, undef, undef, undef, undef, undef, undef, undef, undef, undef, undef, undef, undef, undef, undef, undef, undef, undef, undef, undef, undef, undef, undef, undef, undef, undef, undef, undef, undef, undef, undef, undef, undef, undef, undef, undef, undef, undef, undef, undef, undef, undef, undef, undef, undef, undef, undef, undef, undef]) rfl ?_
  intro w hP hW
  have hpn := hP.pn
  have hpl := hP.len
  simp only at hpn
  have hgl := hP.gl
  have hgs := hsm.sum
  have hone := hsm.one
  have hrl := hP.rest.len
  have hl1 := hone h.rest (by simp [groups])
  have hl2 := hone h.named (by simp [groups])
  refine c_seq ?_
  refine c_reg ?_
  refine l_box hW rfl rfl rfl rfl ?_
  intro g1 W hW
  refine l_alloc hW tyZ52 rfl rfl rfl ?_
  intro g2 W hW
  refine l_val (r_assign (v := .int _ _) rfl rfl) rfl rfl ?_
  refine l_end ?_
  refine n_then ?_
  refine c_seq ?_
  refine c_reg ?_
  refine l_loadA hW 1 tyA52 rfl rfl rfl rfl rfl (by first | rfl | exact kc_len _ | exact kcf_len _ | (simp; done)) ?_
  refine l_callX hW (g_Variants h pa pn pc r q ss hsm hfit) en21 (hP.past hW.below) rfl rfl rfl rfl ?_
  rintro _ Bs0 W ⟨s, rfl, hs⟩ hW
  refine l_val (r_move (v := .tuple _) rfl rfl) rfl rfl ?_
  refine l_val (r_extract (v := .slice _ _ _) rfl rfl rfl) rfl rfl ?_
  refine l_val (r_extract (v := .int _ _) rfl rfl rfl) rfl rfl ?_
  refine l_val (r_assign (v := .slice _ _ _) rfl rfl) rfl rfl ?_
  refine l_val (r_assign (v := .int _ _) rfl rfl) rfl rfl ?_
  refine l_end ?_
  refine n_then ?_
  refine c_seq ?_
  refine c_seq ?_
  refine c_reg ?_
  refine l_val (r_move (v := .int _ _) rfl rfl) rfl rfl ?_
  refine l_val (r_neq rfl rfl rfl rfl) rfl rfl ?_
  refine l_split ?_ ?_
  · intro hc1
    replace hc1 := of_decide_eq_true hc1
    refine l_end ?_
    refine n_then ?_
    refine c_true rfl ?_
    refine c_seq ?_
    refine c_reg ?_
    refine l_val (r_build (ps := []) (bld52_) rfl rfl) rfl rfl ?_
    refine l_val (r_move (v := .int _ _) rfl rfl) rfl rfl ?_
    refine l_storeA hW 0 tyA52 rfl rfl rfl rfl rfl rfl (by first | rfl | exact kc_len _ | exact kcf_len _ | (simp; done)) (by first | rfl | exact kc_len _ | exact kcf_len _ | (simp; done)) (by first | exact kc_one _ | exact kcf_one _ | (simp [Value.oneCell']; done)) ?_
    intro W hW
    refine l_val (r_assign (v := .int _ _) rfl rfl) rfl rfl ?_
    refine l_end ?_
    refine n_then ?_
    refine c_ret ?_
    refine r_then ?_
    refine ret_cell_tmp hW 0 tyA52 rfl rfl rfl (by first | rfl | exact kc_len _ | exact kcf_len _ | (simp; done)) rfl ?_
    have e := hear_8 (x := (n : Int)) (chk_not hc1)
    exact ⟨_, [], rfl, ⟨.agg (huC noHunt Sl.no Sl.no Sl.no).toArray, by rw [e]; exact congrArg (fun z => Value.tuple #[_, .int .i64 z]) (chkH_no (chk_not hc1)), by rw [e]; exact ⟨_, _, _, _, rfl, no_newHu⟩⟩, hW.sub (List.nil_sublist _)⟩
  · intro hc1
    replace hc1 := of_decide_eq_false hc1
    have hv := chk_valid (h := h) (by omega)
    have hvb := (valid_iff h).2 hv
    have hv1 := hv.u1
    have hv2 := hv.r1
    have hv3 := hv.r2
    have hv4 := hv.p
    have hv5 := hv.u2
    rw [varsR_yes hvb] at hs
    refine l_end ?_
    refine n_then ?_
    refine c_false rfl ?_
    refine c_skip ?_
    refine n_then ?_
    refine c_seq ?_
    refine c_seq ?_
    refine c_reg ?_
    refine l_val (r_move (v := .int _ _) rfl rfl) rfl rfl ?_
    refine l_val (r_lssN (b := false) (n := 0) rfl rfl rfl (decide_eq_false (by omega))) rfl rfl ?_
    refine l_val (r_move (v := .bool _) rfl rfl) rfl rfl ?_
    refine l_valG (r_move (v := .slice _ _ _) rfl rfl) (by kernel_rfl) rfl ?_
    refine l_valG (r_move (v := .int _ _) rfl rfl) (by kernel_rfl) rfl ?_
    refine l_callRG hW (g_Contains s.a s.n s.c (variants h) (n : Int) (by rw [vars_len]; omega)) en48 (hs.rep.at hW (List.sublist_append_right _ _)) (by kernel_rfl) rfl rfl rfl ?_
    intro W hW
    refine l_split ?_ ?_
    · intro hc2
      replace hW := hW.sub (List.sublist_append_left [_, _] _)
      rw [hv.has_variant _ (by omega)] at hc2
      have hvx := of_decide_eq_true hc2
      have hvx1 : n ≤ h.ps.length := by omega
      have hvx2 : n = 0 → h.rest.length ≠ 0 := fun h0 h1 => hvx.2 (by omega) (List.eq_nil_of_length_eq_zero h1)
      refine l_valG (r_not rfl rfl) (by kernel_rfl) rfl ?_
      refine l_val (r_pick (v := .bool _) rfl rfl rfl) rfl rfl ?_
      refine l_end ?_
      refine n_then ?_
      refine c_false rfl ?_
      refine c_skip ?_
      refine n_then ?_
      refine c_seq ?_
      refine c_seq ?_
      refine c_reg ?_
      refine l_val (r_fieldAddr 4 Try.underlying52 rfl tyC3.size rfl rfl rfl) rfl rfl ?_
      refine l_loadC hW 1 tyC3 rfl rfl rfl rfl rfl rfl ?_
      refine l_val (r_eql rfl rfl rfl rfl) rfl rfl ?_
      refine l_split ?_ ?_
      · intro hc3
        replace hc3 := of_decide_eq_true hc3
        refine l_end ?_
        refine n_then ?_
        refine c_true rfl ?_
        refine c_seq ?_
        refine c_reg ?_
        refine l_val (r_build (ps := []) (bld52_) rfl rfl) rfl rfl ?_
        refine l_storeA hW 0 tyA52 rfl rfl rfl rfl rfl rfl (by first | rfl | exact kc_len _ | exact kcf_len _ | (simp; done)) (by first | rfl | exact kc_len _ | exact kcf_len _ | (simp; done)) (by first | exact kc_one _ | exact kcf_one _ | (simp [Value.oneCell']; done)) ?_
        intro W hW
        refine l_val (r_assign (v := .int _ _) rfl rfl) rfl rfl ?_
        refine l_end ?_
        refine n_then ?_
        refine c_ret ?_
        refine r_then ?_
        refine ret_cell_tmp hW 0 tyA52 rfl rfl rfl (by first | rfl | exact kc_len _ | exact kcf_len _ | (simp; done)) rfl ?_
        have e := hear_9 (x := (n : Int)) hvb (by omega) (by omega)
        exact ⟨_, [], rfl, ⟨.agg (huC noHunt Sl.no Sl.no Sl.no).toArray, by rw [e]; rfl, by rw [e]; exact ⟨_, _, _, _, rfl, no_newHu⟩⟩, hW.sub (List.nil_sublist _)⟩
      · intro hc3
        replace hc3 := of_decide_eq_false hc3
        refine l_end ?_
        refine n_then ?_
        refine c_false rfl ?_
        refine c_skip ?_
        refine n_then ?_
        refine c_seq ?_
        refine c_regV hW [] [.q, .q, .q, .q, .q, .q, .q, .mk 0, .q, .q, .mk 1, .tail, .tail, .tail] [⟨43, fun _ v Bs => ∃ s : Sl, v = s.v ∧ NewI s (h.named) Bs⟩, ⟨46, fun _ v Bs => ∃ s : Sl, v = s.v ∧ NewI s (h.rest) Bs⟩] [[], []] [7, 10] [0, 1, 0, 4, 12, 0, 32, 96, 0, 256, 992, 2047, 0, 8191] [] [.q, .q, .q, .q, .q, .q, .q, .q, .q, .q, .q, .q, .mk 0, .st 0] [] [] [0, 1, 2, 3, 4, 5, 6, 7, 8, 9, 10] [11, 13] 12 8 (by kernel_rfl) (by kernel_rfl) rfl (by kernel_rfl) (by kernel_rfl) rfl (al_agg tyZ52 rfl) rfl ?_
        refine y_val (r_fieldAddr 0 Try.underlying52 rfl tyC3.size rfl rfl rfl) rfl rfl ?_
        refine y_loadC 1 tyC3 rfl rfl rfl rfl rfl rfl (by decide) ?_
        refine y_val (r_fieldAddr 4 Try.underlying52 rfl tyC3.size rfl rfl rfl) rfl rfl ?_
        refine y_loadC 1 tyC3 rfl rfl rfl rfl rfl rfl (by decide) ?_
        refine y_val (r_addZ rfl rfl rfl (by omega)) rfl rfl ?_
        refine y_val (r_fieldAddr 3 Try.underlying52 rfl tyC35.size rfl rfl rfl) rfl rfl ?_
        refine y_loadC 1 tyC35 rfl rfl rfl rfl rfl rfl (by decide) ?_
        refine y_callX 0 (g_Clone (q).a (q).n (q).c (h.named) (by omega)) en39 rfl rfl (fun L2 w hs hC => hP.named.past hC.below) rfl rfl ?_
        refine y_val (r_fieldAddr 2 Try.underlying52 rfl tyC35.size rfl rfl rfl) rfl rfl ?_
        refine y_loadC 1 tyC35 rfl rfl rfl rfl rfl rfl (by decide) ?_
        refine y_callX 1 (g_Clone (r).a (r).n (r).c (h.rest) (by omega)) en39 rfl rfl (fun L2 w hs hC => hP.rest.past hC.below) rfl rfl ?_
        refine y_tail ?_
        refine y_made ?_
        rintro _ Bs1 ⟨q1, rfl, hq1⟩
        refine y_made ?_
        rintro _ Bs2 ⟨r1, rfl, hr1⟩
        refine ⟨[], [], ⟨rfl, rfl⟩, ?_⟩
        refine y_alloc 0 tyZ52 rfl rfl rfl rfl ?_
        refine y_val (r_build (ps := [(0, .int _ _), (4, .int _ _), (3, .slice _ _ _), (2, .slice _ _ _)]) (bld52_0_4_3_2 _ _ _ _ _ _ _ _) rfl rfl) rfl rfl ?_
        refine y_stA 0 tyA52 rfl rfl rfl rfl (by first | rfl | exact kc_len _ | exact kcf_len _ | (simp; done)) (by first | exact kc_one _ | exact kcf_one _ | (simp [Value.oneCell']; done)) ?_
        refine y_end ?_
        refine y_made ?_
        rintro _ _ ⟨g3, rfl, rfl, -⟩
        intro W hW
        replace hW := (show Cl _ (_ :: (Bs2 ++ (Bs1 ++ [_, _]))) _ from hW).perm (List.Perm.cons _ perm2)
        refine n_then ?_
        refine c_seq ?_
        refine c_seq ?_
        refine c_reg ?_
        refine l_val (r_fieldAddr 1 Try.underlying52 rfl tyC50.size rfl rfl rfl) rfl rfl ?_
        refine l_loadC hW 2 tyC50 rfl rfl rfl rfl rfl rfl ?_
        refine l_val (r_lenSlice Try.underlying50 rfl rfl) rfl rfl ?_
        refine l_val (r_move (v := .int _ _) rfl rfl) rfl rfl ?_
        refine l_end ?_
        refine n_then ?_
        refine c_block ?_
        refine c_loop (fun (x : Nat × Option Addr × Nat × List Blk × List Blk × List Sl) (j : Nat → Value) => [.agg [.int .i64 h.users, .slice pa pn pc, .slice r.a r.n r.c, .slice q.a q.n q.c, .int .i64 h.rounds].toArray, .int .i64 (n : Int), .pointer (some ⟨g1, 0, none⟩), j 3, .pointer (some ⟨g2, 0, none⟩), .int .i64 0, .slice s.a s.n s.c, .int .i64 (chkH h), .pointer (some ⟨g3, 0, none⟩), j 9, j 10, j 11, j 12, j 13, .tuple #[.slice s.a s.n s.c, .int .i64 (chkH h)], .agg ([.int .i64 h.users, .slice pa pn pc, .slice r.a r.n r.c, .slice q.a q.n q.c, .int .i64 h.rounds]).toArray, .tuple #[.slice s.a s.n s.c, .int .i64 (chkH h)], .slice s.a s.n s.c, .int .i64 (chkH h), .int .i64 (chkH h), .bool false, j 21, j 22, .int .i64 (n : Int), .bool false, .bool false, .slice s.a s.n s.c, .int .i64 (n : Int), .bool true, .bool false, .bool false, j 31, .pointer (some ⟨g1, 4, none⟩), .int .i64 h.rounds, .bool false, j 35, .pointer (some ⟨g1, 0, none⟩), .int .i64 h.users, .pointer (some ⟨g1, 4, none⟩), .int .i64 h.rounds, .int .i64 (h.rounds + (1 : Int)), .pointer (some ⟨g1, 3, none⟩), .slice q.a q.n q.c, .slice q1.a q1.n q1.c, .pointer (some ⟨g1, 2, none⟩), .slice r.a r.n r.c, .slice r1.a r1.n r1.c, .agg ([.int .i64 h.users, .slice none 0 0, .slice r1.a r1.n r1.c, .slice q1.a q1.n q1.c, .int .i64 (h.rounds + (1 : Int))]).toArray, .pointer (some ⟨g1, 1, none⟩), .slice pa pn pc, .int .i64 (pn : Int), .int .i64 (x.1 : Int), j 52, j 53, j 54, j 55, j 56, j 57, j 58, j 59, j 60, j 61, j 62, j 63, j 64, j 65, j 66, j 67, j 68, j 69, j 70, j 71, j 72, j 73, j 74, j 75, j 76, j 77, j 78, j 79, j 80, j 81, j 82, j 83, j 84, j 85, j 86, j 87, j 88, j 89, j 90, j 91, j 92, j 93, j 94, j 95, j 96, j 97, j 98, j 99, j 100, j 101, j 102, j 103, j 104, j 105, j 106, j 107, j 108, j 109, j 110, j 111, j 112, j 113, j 114, j 115, j 116, j 117, j 118, j 119, j 120, j 121, j 122, j 123, j 124, j 125, j 126, j 127, j 128, j 129, j 130]) (fun (x : Nat × Option Addr × Nat × List Blk × List Blk × List Sl) => [⟨g3, [.int .i64 h.users, .slice x.2.1 x.1 x.2.2.1, .slice r1.a r1.n r1.c, .slice q1.a q1.n q1.c, .int .i64 (h.rounds + 1)], 52⟩, ⟨g2, z52, 52⟩, ⟨g1, [.int .i64 h.users, .slice pa pn pc, .slice r.a r.n r.c, .slice q.a q.n q.c, .int .i64 h.rounds], 52⟩] ++ (x.2.2.2.1 ++ x.2.2.2.2.1)) (fun (x : Nat × Option Addr × Nat × List Blk × List Blk × List Sl) => x.1 ≤ pn ∧ OwnSl 99 2 x.2.1 x.1 x.2.2.1 (x.2.2.2.2.2.map Sl.v) x.2.2.2.1 ∧ x.2.2.2.2.2.length = 2 * x.1 ∧ NewSs x.2.2.2.2.2 h.ps x.2.2.2.2.1 ∧ List.Sublist (Bs2 ++ Bs1) x.2.2.2.2.1) (fun (x : Nat × Option Addr × Nat × List Blk × List Blk × List Sl) => pn - x.1) (0, none, 0, [], Bs2 ++ Bs1, []) (by kernel_rfl) hW ⟨Nat.zero_le _, OwnSl.nil 99 2, rfl, NewSs.nil _ _, List.Sublist.refl _⟩ ?_
        intro x j W hx hW
        obtain ⟨i, a, c, Bs, N, ssN⟩ := x
        obtain ⟨hx, hO, hl, hN, hsub⟩ := hx
        simp only at hx hO hl hN hsub
        refine c_seq ?_
        refine c_reg ?_
        refine l_val (r_lssN rfl rfl rfl rfl) rfl rfl ?_
        refine l_split ?_ ?_
        · intro hc4
          replace hc4 := of_decide_eq_true hc4
          have hlt : i < pn := by omega
          obtain ⟨b0, o0, rfl⟩ := hP.ptr (by omega)
          obtain ⟨s0, s1, l0, l1, e0, e1, f0, f1, c0, c1, hr0, hr1⟩ := hP.side2 hlt
          have hl0 := hsm.one l0 (by simp [groups, List.mem_of_getElem? f0])
          have hl1 := hsm.one l1 (by simp [groups, List.mem_of_getElem? f1])
          refine l_end ?_
          refine n_then ?_
          refine c_seq ?_
          refine c_true rfl ?_
          refine c_skip ?_
          refine n_then ?_
          refine c_seq ?_
          refine c_block ?_
          refine c_seq ?_
          refine c_reg ?_
          refine l_val (r_indexAddrSl (n := i) Try.underlying50 tyA99.size rfl rfl rfl (by omega)) rfl rfl ?_
          refine l_loadF2 hW tyA99 c0 c1 rfl rfl rfl rfl ?_
          refine l_alloc hW tyZ99 rfl rfl rfl ?_
          intro g4 W hW
          refine l_storeA hW 0 tyA99 rfl rfl rfl rfl rfl rfl (by first | rfl | exact kc_len _ | exact kcf_len _ | (simp; done)) (by first | rfl | exact kc_len _ | exact kcf_len _ | (simp; done)) (by first | exact kc_one _ | exact kcf_one _ | (simp [Value.oneCell']; done)) ?_
          intro W hW
          refine l_end ?_
          refine n_then ?_
          refine c_regW hW [] [.q, .q, .q, .q, .mk 0, .q, .q, .mk 1, .tail, .tail, .tail, .tail, .tail] [⟨59, fun _ v Bs => ∃ s : Sl, v = s.v ∧ NewI s (l0) Bs⟩, ⟨62, fun _ v Bs => ∃ s : Sl, v = s.v ∧ NewI s (l1) Bs⟩] [[], []] [4, 7] [0, 1, 0, 4, 12, 0, 32, 124, 252, 508, 1023, 2047, 4095] [] [.q, .q, .q, .q, .q, .q, .q, .q, .q, .mk 0, .tail, .tail, .tail] [64] [9] [2, 3, 4, 5, 6, 7] [8, 9, 10, 11, 12] [0, 1] (by kernel_rfl) (by kernel_rfl) rfl (by kernel_rfl) (by kernel_rfl) [(0, _, _), (1, _, _)] rfl ⟨rfl, rfl, trivial⟩ ⟨fun _ w _ _ => (r_fieldAddr 1 Try.underlying52 rfl tyC50.size rfl rfl rfl) w, _, rfl, ⟨fun _ w hs hC => run_loadC_at tyC50 1 rfl rfl (hs 1 _ (by decide) rfl) rfl w hC, _, rfl, trivial⟩⟩ ?_
          refine y_val (r_fieldAddr 0 Try.underlying99 rfl tyC35.size rfl rfl rfl) rfl rfl ?_
          refine y_loadC 0 tyC35 rfl rfl rfl rfl rfl rfl (by decide) ?_
          refine y_callX 0 (g_Clone (s0).a (s0).n (s0).c (l0) (by omega)) en39 rfl rfl (fun L2 w hs hC => hr0.past hC.below) rfl rfl ?_
          refine y_val (r_fieldAddr 1 Try.underlying99 rfl tyC35.size rfl rfl rfl) rfl rfl ?_
          refine y_loadC 0 tyC35 rfl rfl rfl rfl rfl rfl (by decide) ?_
          refine y_callX 1 (g_Clone (s1).a (s1).n (s1).c (l1) (by omega)) en39 rfl rfl (fun L2 w hs hC => hr1.past hC.below) rfl rfl ?_
          refine y_tail ?_
          refine y_made ?_
          rintro _ Bs3 ⟨t0, rfl, ht0⟩
          refine y_made ?_
          rintro _ Bs4 ⟨t1, rfl, ht1⟩
          refine ⟨[⟨64, bslX 99 1⟩], [[t0.v, t1.v]], ⟨rfl, rfl⟩, ?_⟩
          refine y_val (r_fieldAddr 1 Try.underlying52 rfl tyC50.size rfl rfl rfl) rfl rfl ?_
          refine y_loadC (Bs4.length + (Bs3.length + 1)) tyC50 (v := .slice a i c) rfl rfl rfl rfl (at_app (at_app rfl)) rfl (by simp) ?_
          refine y_val (r_build (ps := [(0, .slice _ _ _), (1, .slice _ _ _)]) (bld99_0_1 _ _ _ _ _ _) rfl rfl) rfl rfl ?_
          refine y_buildSliceF 0 (bsl50_1_0 _ _ _ _ _ _) rfl rfl rfl rfl ?_
          refine y_tail ?_
          refine y_made ?_
          rintro _ _ ⟨gb, rfl, rfl⟩
          intro W hW
          replace hW := (show Cl _ (_ :: (Bs4 ++ (Bs3 ++ ([_, _, _, _] ++ (Bs ++ N))))) _ from hW).perm (List.Perm.cons _ permH)
          refine l_appendB tyE50 (L := ⟨gb, [t0.v, t1.v], _⟩ :: ([_, _, _, _] ++ (N ++ (Bs4 ++ Bs3)))) hO hW 0 (N := i + 1) rfl rfl rfl rfl rfl rfl rfl rfl (by simp [Value.oneCell']) (by unfold maxLen; omega) (by omega) ?_
          intro a1 c1 Bs5 W hO1 hW
          replace hO1 := hO1.castx rfl (xs' := (ssN ++ [t0, t1]).map Sl.v) (by simp)
          refine l_val (r_fieldAddr 1 Try.underlying52 rfl tyC50.size rfl rfl rfl) rfl rfl ?_
          refine l_storeC hW 2 tyC50 (v := .slice _ _ _) rfl rfl rfl rfl rfl rfl (by first | rfl | omega | (simp; done) | (simp; omega)) rfl ?_
          intro W hW
          refine l_end ?_
          refine n_block ?_
          refine n_then ?_
          refine c_reg ?_
          refine l_val (r_addN (n := 1) rfl rfl rfl (by omega)) rfl rfl ?_
          refine l_val (r_move (v := .int _ _) rfl rfl) rfl rfl ?_
          refine l_end ?_
          refine n_then ?_
          exact loop_next (i + 1, a1, c1, Bs5, N ++ (Bs4 ++ Bs3), ssN ++ [t0, t1]) (by kernel_rfl) ((show Cl _ (([_, _, _] ++ _) ++ _) _ from (hW.drop 2)).perm permX) ⟨by simp only; omega, hO1, by simp only [List.length_append, hl]; simp only [List.length_cons, List.length_nil]; omega, hN.two hl f0 f1 (ht0.sub (List.sublist_append_right _ _)) (ht1.sub (List.sublist_append_left _ _)), hsub.trans (List.sublist_append_left _ _)⟩ (by simp only; omega)
        · intro hc4
          replace hc4 := of_decide_eq_false hc4
          obtain rfl : pn = i := by omega
          have hH : OwnHu 99 (oneUp h) ⟨a, pn, c⟩ r1 q1 ssN Bs N := ⟨hO, by show ssN.length = h.ps.length; omega, hN, hr1.sub ((List.sublist_append_left _ _).trans hsub), hq1.sub ((List.sublist_append_right _ _).trans hsub)⟩
          have hr1n := hr1.n
          have hq1n := hq1.n
          refine l_end ?_
          refine n_then ?_
          refine c_seq ?_
          refine c_false rfl ?_
          refine c_exit ?_
          refine x_then ?_
          refine x_then ?_
          refine x_hit ?_
          refine n_then ?_
          refine c_seq ?_
          refine c_regY hW [] [.q, .q, .q, .q, .q, .q, .q] [0, 1, 3, 0, 8, 7, 63] (by kernel_rfl) (by kernel_rfl) ?_
          refine y_val (r_fieldAddr 1 Try.underlying52 rfl tyC50.size rfl rfl rfl) rfl rfl ?_
          refine y_loadC 0 tyC50 rfl rfl rfl rfl rfl rfl (by decide) ?_
          refine y_val (r_lenSlice Try.underlying50 rfl rfl) rfl rfl ?_
          refine y_val (r_fieldAddr 2 Try.underlying52 rfl tyC35.size rfl rfl rfl) rfl rfl ?_
          refine y_loadC 0 tyC35 rfl rfl rfl rfl rfl rfl (by decide) ?_
          refine y_val (r_assign (v := .int _ _) rfl rfl) rfl rfl ?_
          refine y_val (r_assign (v := .slice _ _ _) rfl rfl) rfl rfl ?_
          refine y_end ?_
          intro W hW
          refine n_then ?_
          refine c_seq ?_
          refine c_seq ?_
          refine c_reg ?_
          refine l_val (r_move (v := .int _ _) rfl rfl) rfl rfl ?_
          refine l_val (r_gtrN (n := 0) rfl rfl rfl rfl) rfl rfl ?_
          refine l_split ?_ ?_
          · intro hc5
            replace hc5 := of_decide_eq_true hc5
            obtain ⟨gr, cur, ha, hRb, -, -, -⟩ := hH.row.row (by simp only; omega)
            simp only at ha
            subst ha
            subst hRb
            obtain ⟨s0, s1, e0, e1, k0, k1⟩ := hH.row.pair2 (i := (n - 1) / 2) (by simp only; omega)
            obtain ⟨l0, f0, n0⟩ := hH.ps _ _ e0
            obtain ⟨l1, f1, n1⟩ := hH.ps _ _ e1
            have v0 := (hv.ps l0 (List.mem_of_getElem? f0)).2
            have v1 := (hv.ps l1 (List.mem_of_getElem? f1)).2
            have y0 := hone l0 (List.mem_of_getElem? (i := 2 * ((n - 1) / 2) + 2) f0)
            have y1 := hone l1 (List.mem_of_getElem? (i := 2 * ((n - 1) / 2) + 3) f1)
            have p0 := List.length_pos_iff.2 v0
            have p1 := List.length_pos_iff.2 v1
            have hn0 := n0.n
            have hn1 := n1.n
            have hh := heard_at (h := h) (x := n) (by omega) rfl f0 f1 v0 v1
            refine l_end ?_
            refine n_then ?_
            refine c_true rfl ?_
            refine c_seq ?_
            refine c_reg ?_
            refine l_val (r_move (v := .int _ _) rfl rfl) rfl rfl ?_
            refine l_val (r_subN (n := 1) rfl rfl rfl (by omega) (by omega)) rfl rfl ?_
            refine l_val (r_quoN (n := 2) rfl rfl rfl (by omega) (by omega)) rfl rfl ?_
            refine l_val (r_assign (v := .int _ _) rfl rfl) rfl rfl ?_
            refine l_end ?_
            refine n_then ?_
            refine c_seq ?_
            refine c_reg ?_
            refine l_val (r_fieldAddr 1 Try.underlying52 rfl tyC50.size rfl rfl rfl) rfl rfl ?_
            refine l_loadC hW 0 tyC50 rfl rfl rfl rfl rfl rfl ?_
            refine l_val (r_move (v := .int _ _) rfl rfl) rfl rfl ?_
            refine l_val (r_indexAddrSl (n := (n - 1) / 2) Try.underlying50 tyA99.size rfl rfl rfl (by first | omega | (simp only; omega))) rfl rfl ?_
            refine l_val (r_fieldAddr _ Try.underlying99 rfl tyC35.size rfl rfl rfl) rfl rfl ?_
            refine l_loadC hW 3 tyC35 (v := s1.v) rfl rfl rfl rfl rfl k1 ?_
            refine l_val (r_assign (v := .slice _ _ _) rfl rfl) rfl rfl ?_
            refine l_end ?_
            refine n_then ?_
            refine c_seq ?_
            refine c_reg ?_
            refine l_val (r_fieldAddr 1 Try.underlying52 rfl tyC50.size rfl rfl rfl) rfl rfl ?_
            refine l_loadC hW 0 tyC50 rfl rfl rfl rfl rfl rfl ?_
            refine l_val (r_move (v := .int _ _) rfl rfl) rfl rfl ?_
            refine l_val (r_indexAddrSl (n := (n - 1) / 2) Try.underlying50 tyA99.size rfl rfl rfl (by first | omega | (simp only; omega))) rfl rfl ?_
            refine l_val (r_fieldAddr _ Try.underlying99 rfl tyC35.size rfl rfl rfl) rfl rfl ?_
            refine l_loadC hW 3 tyC35 (v := s0.v) rfl rfl rfl rfl rfl k0 ?_
            refine l_val (r_assign (v := .slice _ _ _) rfl rfl) rfl rfl ?_
            refine l_end ?_
            refine n_then ?_
            refine c_seq ?_
            refine c_seq ?_
            refine c_reg ?_
            refine l_val (r_move (v := .int _ _) rfl rfl) rfl rfl ?_
            refine l_val (r_remN (n := 2) rfl rfl rfl (by omega)) rfl rfl ?_
            refine l_val (r_eqlN (n := 0) rfl rfl rfl rfl) rfl rfl ?_
            refine l_split ?_ ?_
            · intro hc6
              replace hc6 := of_decide_eq_true hc6
              rw [if_neg (by omega), if_neg (by omega)] at hh
              refine l_end ?_
              refine n_then ?_
              refine c_true rfl ?_
              refine c_reg ?_
              refine l_val (r_move (v := .slice _ _ _) rfl rfl) rfl rfl ?_
              refine l_val (r_move (v := .slice _ _ _) rfl rfl) rfl rfl ?_
              refine l_val (r_assign (v := .slice _ _ _) rfl rfl) rfl rfl ?_
              refine l_val (r_assign (v := .slice _ _ _) rfl rfl) rfl rfl ?_
              refine l_end ?_
              refine n_then ?_
              refine c_reg ?_
              refine l_val (r_fieldAddr 2 Try.underlying52 rfl tyC35.size rfl rfl rfl) rfl rfl ?_
              refine l_loadC hW 0 tyC35 rfl rfl rfl rfl rfl rfl ?_
              refine l_val (r_move (v := .slice _ _ _) rfl rfl) rfl rfl ?_
              refine l_buildSliceF hW (bsl69_2_0_1 _ _ _ _ _ _) rfl rfl rfl rfl ?_
              intro gm W hW
              refine l_callX hW (g_merged (some ⟨gm, 0, none⟩) 2 2 [r1, s0] [h.rest, l0] (by simp only [sumL]; omega) (by omega)) en49 (RdG.two hW 0 rfl (hH.rest.rep.at hW (List.sublist_append_right [_, _, _, _, _] N)) (n0.rep.at hW (List.sublist_append_right [_, _, _, _, _] N))) rfl rfl rfl rfl ?_
              rintro _ BsR W ⟨rm, rfl, hrm⟩ hW
              refine l_val (r_fieldAddr 2 Try.underlying52 rfl tyC35.size rfl rfl rfl) rfl rfl ?_
              refine l_storeC hW 1 tyC35 (v := .slice _ _ _) rfl rfl rfl rfl rfl rfl (by first | rfl | omega | (simp; done) | (simp; omega)) rfl ?_
              intro W hW
              refine l_end ?_
              refine n_then ?_
              refine c_seq ?_
              refine c_seq ?_
              refine c_reg ?_
              refine l_val (r_move (v := .slice _ _ _) rfl rfl) rfl rfl ?_
              refine l_val (r_lenSlice Try.underlying35 rfl rfl) rfl rfl ?_
              refine l_val (r_eqlN (n := 1) rfl rfl rfl rfl) rfl rfl ?_
              refine l_split ?_ ?_
              · intro hc7
                replace hc7 := of_decide_eq_true hc7
                have mgr : sortI [h.rest, l0].flatten = merged h.rest l0 := by rw [List.flatten_cons, List.flatten_cons, List.flatten_nil, List.append_nil]; exact hv.merged_rest (List.mem_of_getElem? f0)
                have mgn : sortI [h.named, l1].flatten = merged h.named l1 := by rw [List.flatten_cons, List.flatten_cons, List.flatten_nil, List.append_nil]; exact hv.merged_named (List.mem_of_getElem? f1)
                refine l_end ?_
                refine n_then ?_
                refine c_true rfl ?_
                refine c_seq ?_
                refine c_reg ?_
                refine l_val (r_fieldAddr 3 Try.underlying52 rfl tyC35.size rfl rfl rfl) rfl rfl ?_
                refine l_loadC hW 1 tyC35 rfl rfl rfl rfl rfl rfl ?_
                refine l_val (r_move (v := .slice _ _ _) rfl rfl) rfl rfl ?_
                refine l_buildSliceF hW (bsl69_2_0_1 _ _ _ _ _ _) rfl rfl rfl rfl ?_
                intro gk W hW
                refine l_callX hW (g_merged (some ⟨gk, 0, none⟩) 2 2 [q1, s1] [h.named, l1] (by simp only [sumL]; omega) (by omega)) en49 (RdG.two hW 0 rfl (hH.named.rep.at hW ((List.sublist_append_right [_, _, _, _, _, _] N).trans (List.sublist_append_left _ BsR))) (n1.rep.at hW ((List.sublist_append_right [_, _, _, _, _, _] N).trans (List.sublist_append_left _ BsR)))) rfl rfl rfl rfl ?_
                rintro _ BsN W ⟨rn, rfl, hrn⟩ hW
                refine l_val (r_fieldAddr 3 Try.underlying52 rfl tyC35.size rfl rfl rfl) rfl rfl ?_
                refine l_storeC hW 2 tyC35 (v := .slice _ _ _) rfl rfl rfl rfl rfl rfl (by first | rfl | omega | (simp; done) | (simp; omega)) rfl ?_
                intro W hW
                refine l_end ?_
                refine n_then ?_
                refine c_reg ?_
                refine l_val (r_fieldAddr 1 Try.underlying52 rfl tyC50.size rfl rfl rfl) rfl rfl ?_
                refine l_loadC hW 2 tyC50 rfl rfl rfl rfl rfl rfl ?_
                refine l_val (r_move (v := .int _ _) rfl rfl) rfl rfl ?_
                refine l_val (r_move (v := .int _ _) rfl rfl) rfl rfl ?_
                refine l_val (r_addN (n := 1) rfl rfl rfl (by omega)) rfl rfl ?_
                replace hW := (show Cl _ ((_ :: (([_, _, _, _] ++ (⟨gr, cur, 99⟩ :: N)) ++ BsR)) ++ BsN) _ from hW).perm delA
                refine l_callS (g_DeleteP gr pn c ((n - 1) / 2) cur (ssN.map Sl.v) hH.row (by omega) (fun v hv => by obtain ⟨x, _, rfl⟩ := List.mem_map.1 hv; rfl)) hW en50 trivial rfl rfl rfl rfl ?_
                rintro _ Bx W ⟨rfl, hO3⟩ hW
                replace hW := hW.perm List.perm_append_comm
                refine l_val (r_fieldAddr 1 Try.underlying52 rfl tyC50.size rfl rfl rfl) rfl rfl ?_
                refine l_storeC hW 2 tyC50 (v := .slice _ _ _) rfl rfl rfl rfl rfl rfl (by first | rfl | omega | (simp; done) | (simp; omega)) rfl ?_
                intro W hW
                refine l_end ?_
                refine n_then ?_
                refine c_seq ?_
                refine c_reg ?_
                refine l_loadA hW 2 tyA52 rfl rfl rfl rfl rfl (by first | rfl | exact kc_len _ | exact kcf_len _ | (simp; done)) ?_
                refine l_storeA hW 3 tyA52 rfl rfl rfl rfl rfl rfl (by first | rfl | exact kc_len _ | exact kcf_len _ | (simp; done)) (by first | rfl | exact kc_len _ | exact kcf_len _ | (simp; done)) (by first | exact kc_one _ | exact kcf_one _ | (simp [Value.oneCell']; done)) ?_
                intro W hW
                refine l_val (r_assign (v := .int _ _) rfl rfl) rfl rfl ?_
                refine l_end ?_
                refine n_then ?_
                refine c_ret ?_
                refine ret_cell_tmp hW 3 tyA52 rfl rfl rfl (by first | rfl | exact kc_len _ | exact kcf_len _ | (simp; done)) rfl ?_
                have e := hear_0 (n := n) hvb (by omega) (by omega)
                have hF : OwnHu 99 (heardAt (oneUp h) ((n - 1) / 2) l1 l0) ⟨some ⟨gr, 0, none⟩, pn - 1, c⟩ rm rn (ssN.take (2 * ((n - 1) / 2)) ++ ssN.drop (2 * ((n - 1) / 2) + 2)) Bx (N ++ (BsR ++ BsN)) := by
                  have hps : (heardAt (oneUp h) ((n - 1) / 2) l1 l0).ps = h.ps.take (2 * ((n - 1) / 2)) ++ h.ps.drop (2 * ((n - 1) / 2) + 2) := if_neg (by omega)
                  have hnm : (heardAt (oneUp h) ((n - 1) / 2) l1 l0).named = merged h.named l1 := if_neg (by omega)
                  refine ⟨?_, by rw [hps]; simp only [List.length_append, List.length_take, List.length_drop]; omega, by rw [hps]; exact (hH.ps.sub (List.sublist_append_left _ _)).cut hH.len (by omega), (show NewI rm (merged h.rest l0) _ from (by rw [← mgr]; exact hrm)).sub ((List.sublist_append_left _ _).trans (List.sublist_append_right _ _)), by rw [hnm, ← mgn]; exact hrn.sub ((List.sublist_append_right _ _).trans (List.sublist_append_right _ _))⟩
                  rw [show ((n - 1) / 2 + 1) * 2 = 2 * ((n - 1) / 2) + 2 by omega, show (n - 1) / 2 * 2 = 2 * ((n - 1) / 2) by omega, ← List.map_take, ← List.map_drop, ← List.map_append] at hO3
                  exact hO3
                exact ⟨_, (N ++ (BsR ++ BsN)) ++ Bx, rfl, ⟨_, by rw [e]; rfl, by rw [e, hh]; exact ⟨_, _, _, _, rfl, hF.newHu (List.sublist_append_left _ _) (List.sublist_append_right _ _)⟩⟩, (show Cl _ ((N ++ (BsR ++ BsN)) ++ Bx) _ from hW.drop 5)⟩
              · intro hc7
                replace hc7 := of_decide_eq_false hc7
                have mgr : sortI [h.rest, l0].flatten = merged h.rest l0 := by rw [List.flatten_cons, List.flatten_cons, List.flatten_nil, List.append_nil]; exact hv.merged_rest (List.mem_of_getElem? f0)
                refine l_end ?_
                refine n_then ?_
                refine c_false rfl ?_
                refine c_regM hW [] [.q, .q, .q, .q, .mk 0, .q, .tail] [⟨128, fun _ v Bs => ∃ s0 s1 : Sl, v = .agg [s0.v, s1.v].toArray ∧ NewI s0 (l1.take (halfN l1)) Bs ∧ NewI s1 (l1.drop (halfN l1)) Bs⟩] [[]] [4] [0, 1, 0, 0, 8, 31, 63] (by kernel_rfl) (by kernel_rfl) rfl (by kernel_rfl) ?_
                refine y_val (r_fieldAddr 1 Try.underlying52 rfl tyC50.size rfl rfl rfl) rfl rfl ?_
                refine y_loadC 1 tyC50 rfl rfl rfl rfl rfl rfl (by decide) ?_
                refine y_val (r_move (v := .int _ _) rfl rfl) rfl rfl ?_
                refine y_val (r_move (v := .slice _ _ _) rfl rfl) rfl rfl ?_
                refine y_callX 0 (g_halves s1.a s1.n s1.c l1 (by omega)) en51 rfl rfl (fun L2 w hs hC => n1.rep.at hC (((List.sublist_append_right [_, _, _, _, _] N).trans (List.sublist_append_left _ BsR)).trans hs.pre)) rfl rfl ?_
                refine y_val (r_indexAddrSl (n := ((n - 1) / 2)) Try.underlying50 tyA99.size rfl rfl rfl (by first | omega | (simp only; omega))) rfl rfl ?_
                refine y_tail ?_
                refine y_made ?_
                rintro _ BsH ⟨t0, t1, rfl, ht0, ht1⟩
                intro W hW
                replace hW := hW.perm List.perm_append_comm
                obtain ⟨_, _, _, _, _, hil⟩ := hH.row.pair (i := ((n - 1) / 2)) (by first | omega | (simp only; omega))
                refine l_storeP hW 4 tyA99 (i := 0 + ((n - 1) / 2) * 2) (vs := [t0.v, t1.v]) rfl rfl rfl rfl rfl rfl (by omega) rfl (by simp [Sl.v, Value.oneCell']) ?_
                intro W hW
                rw [Nat.zero_add] at hW
                refine l_end ?_
                refine n_then ?_
                refine c_seq ?_
                refine c_reg ?_
                refine l_loadA hW 1 tyA52 rfl rfl rfl rfl rfl (by first | rfl | exact kc_len _ | exact kcf_len _ | (simp; done)) ?_
                refine l_storeA hW 2 tyA52 rfl rfl rfl rfl rfl rfl (by first | rfl | exact kc_len _ | exact kcf_len _ | (simp; done)) (by first | rfl | exact kc_len _ | exact kcf_len _ | (simp; done)) (by first | exact kc_one _ | exact kcf_one _ | (simp [Value.oneCell']; done)) ?_
                intro W hW
                refine l_val (r_assign (v := .int _ _) rfl rfl) rfl rfl ?_
                refine l_end ?_
                refine n_then ?_
                refine c_ret ?_
                refine ret_cell_tmp hW 2 tyA52 rfl rfl rfl (by first | rfl | exact kc_len _ | exact kcf_len _ | (simp; done)) rfl ?_
                have e := hear_0 (n := n) hvb (by omega) (by omega)
                have hF : OwnHu 99 (heardAt (oneUp h) ((n - 1) / 2) l1 l0) ⟨some ⟨gr, 0, none⟩, pn, c⟩ rm q1 ((ssN.set ((n - 1) / 2 * 2) t0).set ((n - 1) / 2 * 2 + 1) t1) [⟨gr, cur.take ((n - 1) / 2 * 2) ++ [t0.v, t1.v] ++ cur.drop ((n - 1) / 2 * 2 + 2), 99⟩] (N ++ (BsR ++ BsH)) := by
                  have hps : (heardAt (oneUp h) ((n - 1) / 2) l1 l0).ps = (h.ps.set ((n - 1) / 2 * 2) (l1.take (halfN l1))).set ((n - 1) / 2 * 2 + 1) (l1.drop (halfN l1)) := if_pos (by omega)
                  have hnm : (heardAt (oneUp h) ((n - 1) / 2) l1 l0).named = h.named := if_pos (by omega)
                  refine ⟨hH.row.two (by first | omega | (simp only; omega)), by rw [hps]; simpa using hH.len, by rw [hps]; exact (hH.ps.sub (List.sublist_append_left _ _)).two_set hH.len (ht0.sub ((List.sublist_append_right _ _).trans (List.sublist_append_right _ _))) (ht1.sub ((List.sublist_append_right _ _).trans (List.sublist_append_right _ _))), (show NewI rm (merged h.rest l0) _ from (by rw [← mgr]; exact hrm)).sub ((List.sublist_append_left _ _).trans (List.sublist_append_right _ _)), by rw [hnm]; exact hH.named.sub (List.sublist_append_left _ _)⟩
                exact ⟨_, (N ++ (BsR ++ BsH)) ++ [_], rfl, ⟨_, by rw [e]; rfl, by rw [e, hh]; exact ⟨_, _, _, _, rfl, hF.newHu (List.sublist_append_left _ _) (List.sublist_append_right _ _)⟩⟩, (show Cl _ (_ :: ((N ++ BsR) ++ BsH)) _ from hW.drop 4).perm fin1⟩
            · intro hc6
              replace hc6 := of_decide_eq_false hc6
              rw [if_pos (by omega), if_pos (by omega)] at hh
              refine l_end ?_
              refine n_then ?_
              refine c_false rfl ?_
              refine c_skip ?_
              refine n_then ?_
              refine c_reg ?_
              refine l_val (r_fieldAddr 2 Try.underlying52 rfl tyC35.size rfl rfl rfl) rfl rfl ?_
              refine l_loadC hW 0 tyC35 rfl rfl rfl rfl rfl rfl ?_
              refine l_val (r_move (v := .slice _ _ _) rfl rfl) rfl rfl ?_
              refine l_buildSliceF hW (bsl69_2_0_1 _ _ _ _ _ _) rfl rfl rfl rfl ?_
              intro gm W hW
              refine l_callX hW (g_merged (some ⟨gm, 0, none⟩) 2 2 [r1, s1] [h.rest, l1] (by simp only [sumL]; omega) (by omega)) en49 (RdG.two hW 0 rfl (hH.rest.rep.at hW (List.sublist_append_right [_, _, _, _, _] N)) (n1.rep.at hW (List.sublist_append_right [_, _, _, _, _] N))) rfl rfl rfl rfl ?_
              rintro _ BsR W ⟨rm, rfl, hrm⟩ hW
              refine l_val (r_fieldAddr 2 Try.underlying52 rfl tyC35.size rfl rfl rfl) rfl rfl ?_
              refine l_storeC hW 1 tyC35 (v := .slice _ _ _) rfl rfl rfl rfl rfl rfl (by first | rfl | omega | (simp; done) | (simp; omega)) rfl ?_
              intro W hW
              refine l_end ?_
              refine n_then ?_
              refine c_seq ?_
              refine c_seq ?_
              refine c_reg ?_
              refine l_val (r_move (v := .slice _ _ _) rfl rfl) rfl rfl ?_
              refine l_val (r_lenSlice Try.underlying35 rfl rfl) rfl rfl ?_
              refine l_val (r_eqlN (n := 1) rfl rfl rfl rfl) rfl rfl ?_
              refine l_split ?_ ?_
              · intro hc8
                replace hc8 := of_decide_eq_true hc8
                have mgr : sortI [h.rest, l1].flatten = merged h.rest l1 := by rw [List.flatten_cons, List.flatten_cons, List.flatten_nil, List.append_nil]; exact hv.merged_rest (List.mem_of_getElem? f1)
                have mgn : sortI [h.named, l0].flatten = merged h.named l0 := by rw [List.flatten_cons, List.flatten_cons, List.flatten_nil, List.append_nil]; exact hv.merged_named (List.mem_of_getElem? f0)
                refine l_end ?_
                refine n_then ?_
                refine c_true rfl ?_
                refine c_seq ?_
                refine c_reg ?_
                refine l_val (r_fieldAddr 3 Try.underlying52 rfl tyC35.size rfl rfl rfl) rfl rfl ?_
                refine l_loadC hW 1 tyC35 rfl rfl rfl rfl rfl rfl ?_
                refine l_val (r_move (v := .slice _ _ _) rfl rfl) rfl rfl ?_
                refine l_buildSliceF hW (bsl69_2_0_1 _ _ _ _ _ _) rfl rfl rfl rfl ?_
                intro gk W hW
                refine l_callX hW (g_merged (some ⟨gk, 0, none⟩) 2 2 [q1, s0] [h.named, l0] (by simp only [sumL]; omega) (by omega)) en49 (RdG.two hW 0 rfl (hH.named.rep.at hW ((List.sublist_append_right [_, _, _, _, _, _] N).trans (List.sublist_append_left _ BsR))) (n0.rep.at hW ((List.sublist_append_right [_, _, _, _, _, _] N).trans (List.sublist_append_left _ BsR)))) rfl rfl rfl rfl ?_
                rintro _ BsN W ⟨rn, rfl, hrn⟩ hW
                refine l_val (r_fieldAddr 3 Try.underlying52 rfl tyC35.size rfl rfl rfl) rfl rfl ?_
                refine l_storeC hW 2 tyC35 (v := .slice _ _ _) rfl rfl rfl rfl rfl rfl (by first | rfl | omega | (simp; done) | (simp; omega)) rfl ?_
                intro W hW
                refine l_end ?_
                refine n_then ?_
                refine c_reg ?_
                refine l_val (r_fieldAddr 1 Try.underlying52 rfl tyC50.size rfl rfl rfl) rfl rfl ?_
                refine l_loadC hW 2 tyC50 rfl rfl rfl rfl rfl rfl ?_
                refine l_val (r_move (v := .int _ _) rfl rfl) rfl rfl ?_
                refine l_val (r_move (v := .int _ _) rfl rfl) rfl rfl ?_
                refine l_val (r_addN (n := 1) rfl rfl rfl (by omega)) rfl rfl ?_
                replace hW := (show Cl _ ((_ :: (([_, _, _, _] ++ (⟨gr, cur, 99⟩ :: N)) ++ BsR)) ++ BsN) _ from hW).perm delA
                refine l_callS (g_DeleteP gr pn c ((n - 1) / 2) cur (ssN.map Sl.v) hH.row (by omega) (fun v hv => by obtain ⟨x, _, rfl⟩ := List.mem_map.1 hv; rfl)) hW en50 trivial rfl rfl rfl rfl ?_
                rintro _ Bx W ⟨rfl, hO3⟩ hW
                replace hW := hW.perm List.perm_append_comm
                refine l_val (r_fieldAddr 1 Try.underlying52 rfl tyC50.size rfl rfl rfl) rfl rfl ?_
                refine l_storeC hW 2 tyC50 (v := .slice _ _ _) rfl rfl rfl rfl rfl rfl (by first | rfl | omega | (simp; done) | (simp; omega)) rfl ?_
                intro W hW
                refine l_end ?_
                refine n_then ?_
                refine c_seq ?_
                refine c_reg ?_
                refine l_loadA hW 2 tyA52 rfl rfl rfl rfl rfl (by first | rfl | exact kc_len _ | exact kcf_len _ | (simp; done)) ?_
                refine l_storeA hW 3 tyA52 rfl rfl rfl rfl rfl rfl (by first | rfl | exact kc_len _ | exact kcf_len _ | (simp; done)) (by first | rfl | exact kc_len _ | exact kcf_len _ | (simp; done)) (by first | exact kc_one _ | exact kcf_one _ | (simp [Value.oneCell']; done)) ?_
                intro W hW
                refine l_val (r_assign (v := .int _ _) rfl rfl) rfl rfl ?_
                refine l_end ?_
                refine n_then ?_
                refine c_ret ?_
                refine ret_cell_tmp hW 3 tyA52 rfl rfl rfl (by first | rfl | exact kc_len _ | exact kcf_len _ | (simp; done)) rfl ?_
                have e := hear_0 (n := n) hvb (by omega) (by omega)
                have hF : OwnHu 99 (heardAt (oneUp h) ((n - 1) / 2) l0 l1) ⟨some ⟨gr, 0, none⟩, pn - 1, c⟩ rm rn (ssN.take (2 * ((n - 1) / 2)) ++ ssN.drop (2 * ((n - 1) / 2) + 2)) Bx (N ++ (BsR ++ BsN)) := by
                  have hps : (heardAt (oneUp h) ((n - 1) / 2) l0 l1).ps = h.ps.take (2 * ((n - 1) / 2)) ++ h.ps.drop (2 * ((n - 1) / 2) + 2) := if_neg (by omega)
                  have hnm : (heardAt (oneUp h) ((n - 1) / 2) l0 l1).named = merged h.named l0 := if_neg (by omega)
                  refine ⟨?_, by rw [hps]; simp only [List.length_append, List.length_take, List.length_drop]; omega, by rw [hps]; exact (hH.ps.sub (List.sublist_append_left _ _)).cut hH.len (by omega), (show NewI rm (merged h.rest l1) _ from (by rw [← mgr]; exact hrm)).sub ((List.sublist_append_left _ _).trans (List.sublist_append_right _ _)), by rw [hnm, ← mgn]; exact hrn.sub ((List.sublist_append_right _ _).trans (List.sublist_append_right _ _))⟩
                  rw [show ((n - 1) / 2 + 1) * 2 = 2 * ((n - 1) / 2) + 2 by omega, show (n - 1) / 2 * 2 = 2 * ((n - 1) / 2) by omega, ← List.map_take, ← List.map_drop, ← List.map_append] at hO3
                  exact hO3
                exact ⟨_, (N ++ (BsR ++ BsN)) ++ Bx, rfl, ⟨_, by rw [e]; rfl, by rw [e, hh]; exact ⟨_, _, _, _, rfl, hF.newHu (List.sublist_append_left _ _) (List.sublist_append_right _ _)⟩⟩, (show Cl _ ((N ++ (BsR ++ BsN)) ++ Bx) _ from hW.drop 5)⟩
              · intro hc8
                replace hc8 := of_decide_eq_false hc8
                have mgr : sortI [h.rest, l1].flatten = merged h.rest l1 := by rw [List.flatten_cons, List.flatten_cons, List.flatten_nil, List.append_nil]; exact hv.merged_rest (List.mem_of_getElem? f1)
                refine l_end ?_
                refine n_then ?_
                refine c_false rfl ?_
                refine c_regM hW [] [.q, .q, .q, .q, .mk 0, .q, .tail] [⟨128, fun _ v Bs => ∃ s0 s1 : Sl, v = .agg [s0.v, s1.v].toArray ∧ NewI s0 (l0.take (halfN l0)) Bs ∧ NewI s1 (l0.drop (halfN l0)) Bs⟩] [[]] [4] [0, 1, 0, 0, 8, 31, 63] (by kernel_rfl) (by kernel_rfl) rfl (by kernel_rfl) ?_
                refine y_val (r_fieldAddr 1 Try.underlying52 rfl tyC50.size rfl rfl rfl) rfl rfl ?_
                refine y_loadC 1 tyC50 rfl rfl rfl rfl rfl rfl (by decide) ?_
                refine y_val (r_move (v := .int _ _) rfl rfl) rfl rfl ?_
                refine y_val (r_move (v := .slice _ _ _) rfl rfl) rfl rfl ?_
                refine y_callX 0 (g_halves s0.a s0.n s0.c l0 (by omega)) en51 rfl rfl (fun L2 w hs hC => n0.rep.at hC (((List.sublist_append_right [_, _, _, _, _] N).trans (List.sublist_append_left _ BsR)).trans hs.pre)) rfl rfl ?_
                refine y_val (r_indexAddrSl (n := ((n - 1) / 2)) Try.underlying50 tyA99.size rfl rfl rfl (by first | omega | (simp only; omega))) rfl rfl ?_
                refine y_tail ?_
                refine y_made ?_
                rintro _ BsH ⟨t0, t1, rfl, ht0, ht1⟩
                intro W hW
                replace hW := hW.perm List.perm_append_comm
                obtain ⟨_, _, _, _, _, hil⟩ := hH.row.pair (i := ((n - 1) / 2)) (by first | omega | (simp only; omega))
                refine l_storeP hW 4 tyA99 (i := 0 + ((n - 1) / 2) * 2) (vs := [t0.v, t1.v]) rfl rfl rfl rfl rfl rfl (by omega) rfl (by simp [Sl.v, Value.oneCell']) ?_
                intro W hW
                rw [Nat.zero_add] at hW
                refine l_end ?_
                refine n_then ?_
                refine c_seq ?_
                refine c_reg ?_
                refine l_loadA hW 1 tyA52 rfl rfl rfl rfl rfl (by first | rfl | exact kc_len _ | exact kcf_len _ | (simp; done)) ?_
                refine l_storeA hW 2 tyA52 rfl rfl rfl rfl rfl rfl (by first | rfl | exact kc_len _ | exact kcf_len _ | (simp; done)) (by first | rfl | exact kc_len _ | exact kcf_len _ | (simp; done)) (by first | exact kc_one _ | exact kcf_one _ | (simp [Value.oneCell']; done)) ?_
                intro W hW
                refine l_val (r_assign (v := .int _ _) rfl rfl) rfl rfl ?_
                refine l_end ?_
                refine n_then ?_
                refine c_ret ?_
                refine ret_cell_tmp hW 2 tyA52 rfl rfl rfl (by first | rfl | exact kc_len _ | exact kcf_len _ | (simp; done)) rfl ?_
                have e := hear_0 (n := n) hvb (by omega) (by omega)
                have hF : OwnHu 99 (heardAt (oneUp h) ((n - 1) / 2) l0 l1) ⟨some ⟨gr, 0, none⟩, pn, c⟩ rm q1 ((ssN.set ((n - 1) / 2 * 2) t0).set ((n - 1) / 2 * 2 + 1) t1) [⟨gr, cur.take ((n - 1) / 2 * 2) ++ [t0.v, t1.v] ++ cur.drop ((n - 1) / 2 * 2 + 2), 99⟩] (N ++ (BsR ++ BsH)) := by
                  have hps : (heardAt (oneUp h) ((n - 1) / 2) l0 l1).ps = (h.ps.set ((n - 1) / 2 * 2) (l0.take (halfN l0))).set ((n - 1) / 2 * 2 + 1) (l0.drop (halfN l0)) := if_pos (by omega)
                  have hnm : (heardAt (oneUp h) ((n - 1) / 2) l0 l1).named = h.named := if_pos (by omega)
                  refine ⟨hH.row.two (by first | omega | (simp only; omega)), by rw [hps]; simpa using hH.len, by rw [hps]; exact (hH.ps.sub (List.sublist_append_left _ _)).two_set hH.len (ht0.sub ((List.sublist_append_right _ _).trans (List.sublist_append_right _ _))) (ht1.sub ((List.sublist_append_right _ _).trans (List.sublist_append_right _ _))), (show NewI rm (merged h.rest l1) _ from (by rw [← mgr]; exact hrm)).sub ((List.sublist_append_left _ _).trans (List.sublist_append_right _ _)), by rw [hnm]; exact hH.named.sub (List.sublist_append_left _ _)⟩
                exact ⟨_, (N ++ (BsR ++ BsH)) ++ [_], rfl, ⟨_, by rw [e]; rfl, by rw [e, hh]; exact ⟨_, _, _, _, rfl, hF.newHu (List.sublist_append_left _ _) (List.sublist_append_right _ _)⟩⟩, (show Cl _ (_ :: ((N ++ BsR) ++ BsH)) _ from hW.drop 4).perm fin1⟩
          · intro hc5
            replace hc5 := of_decide_eq_false hc5
            refine l_end ?_
            refine n_then ?_
            refine c_false rfl ?_
            refine c_seq ?_
            refine c_reg ?_
            refine l_val (r_fieldAddr 2 Try.underlying52 rfl tyC35.size rfl rfl rfl) rfl rfl ?_
            refine l_storeC hW 0 tyC35 (v := .slice _ _ _) rfl rfl rfl rfl rfl rfl (by first | rfl | omega | (simp; done) | (simp; omega)) rfl ?_
            intro W hW
            refine l_end ?_
            refine n_then ?_
            refine c_reg ?_
            refine l_val (r_fieldAddr 1 Try.underlying52 rfl tyC50.size rfl rfl rfl) rfl rfl ?_
            refine l_loadC hW 0 tyC50 rfl rfl rfl rfl rfl rfl ?_
            refine l_val (r_build (ps := []) (bld99_) rfl rfl) rfl rfl ?_
            refine l_buildSliceF hW (bsl50_1_0 _ _ _ _ _ _) rfl rfl rfl rfl ?_
            intro gb W hW
            replace hW := (show Cl _ ([_, _, _, _] ++ (Bs ++ N)) _ from hW).perm permY
            refine l_appendB tyE50 (L := [_, _, _, _] ++ N) hO hW 0 (N := pn + 1) rfl rfl rfl rfl rfl rfl rfl rfl (by simp [Value.oneCell']) (by unfold maxLen; omega) (by omega) ?_
            intro a1 c1 Bs5 W hO1 hW
            replace hO1 := hO1.castx rfl (xs' := (ssN ++ [Sl.no, Sl.no]).map Sl.v) (by simp)
            obtain ⟨gr, cur, rfl, rfl, -, -, -⟩ := hO1.row (by omega)
            replace hW := (show Cl _ (([_, _, _, _] ++ N) ++ [⟨gr, cur, _⟩]) _ from hW).perm permX
            refine l_val (r_fieldAddr 1 Try.underlying52 rfl tyC50.size rfl rfl rfl) rfl rfl ?_
            refine l_storeC hW 1 tyC50 (v := .slice _ _ _) rfl rfl rfl rfl rfl rfl (by first | rfl | omega | (simp; done) | (simp; omega)) rfl ?_
            intro W hW
            refine l_end ?_
            refine n_then ?_
            refine c_seq ?_
            refine c_seq ?_
            refine c_reg ?_
            refine l_val (r_move (v := .slice _ _ _) rfl rfl) rfl rfl ?_
            refine l_val (r_lenSlice Try.underlying35 rfl rfl) rfl rfl ?_
            refine l_val (r_eqlN (n := 1) rfl rfl rfl rfl) rfl rfl ?_
            refine l_split ?_ ?_
            · intro hc9
              replace hc9 := of_decide_eq_true hc9
              have mgn : sortI [h.named, h.rest].flatten = merged h.named h.rest := by rw [List.flatten_cons, List.flatten_cons, List.flatten_nil, List.append_nil]; exact hv.named_rest
              refine l_end ?_
              refine n_then ?_
              refine c_true rfl ?_
              refine c_seq ?_
              refine c_reg ?_
              refine l_val (r_fieldAddr 3 Try.underlying52 rfl tyC35.size rfl rfl rfl) rfl rfl ?_
              refine l_loadC hW 1 tyC35 rfl rfl rfl rfl rfl rfl ?_
              refine l_val (r_move (v := .slice _ _ _) rfl rfl) rfl rfl ?_
              refine l_buildSliceF hW (bsl69_2_0_1 _ _ _ _ _ _) rfl rfl rfl rfl ?_
              intro gk W hW
              refine l_callX hW (g_merged (some ⟨gk, 0, none⟩) 2 2 [q1, r1] [h.named, h.rest] (by simp only [sumL]; omega) (by omega)) en49 (RdG.two hW 0 rfl (hH.named.rep.at hW (List.sublist_append_right [_, _, _, _, _, _] N)) (hH.rest.rep.at hW (List.sublist_append_right [_, _, _, _, _, _] N))) rfl rfl rfl rfl ?_
              rintro _ BsN W ⟨rn, rfl, hrn⟩ hW
              refine l_val (r_fieldAddr 3 Try.underlying52 rfl tyC35.size rfl rfl rfl) rfl rfl ?_
              refine l_storeC hW 2 tyC35 (v := .slice _ _ _) rfl rfl rfl rfl rfl rfl (by first | rfl | omega | (simp; done) | (simp; omega)) rfl ?_
              intro W hW
              refine l_end ?_
              refine n_then ?_
              refine c_reg ?_
              refine l_val (r_fieldAddr 1 Try.underlying52 rfl tyC50.size rfl rfl rfl) rfl rfl ?_
              refine l_loadC hW 2 tyC50 rfl rfl rfl rfl rfl rfl ?_
              refine l_val (r_move (v := .int _ _) rfl rfl) rfl rfl ?_
              refine l_val (r_move (v := .int _ _) rfl rfl) rfl rfl ?_
              refine l_val (r_addN (n := 1) rfl rfl rfl (by omega)) rfl rfl ?_
              replace hW := (show Cl _ ((_ :: ([_, _, _, _] ++ (⟨gr, cur, 99⟩ :: N))) ++ BsN) _ from hW).perm delB
              refine l_callS (g_DeleteP gr (pn + 1) c1 pn cur ((ssN ++ [Sl.no, Sl.no]).map Sl.v) hO1 (by omega) (fun v hv => by obtain ⟨x, _, rfl⟩ := List.mem_map.1 hv; rfl)) hW en50 trivial rfl rfl rfl rfl ?_
              rintro _ Bx W ⟨rfl, hO3⟩ hW
              replace hW := hW.perm List.perm_append_comm
              refine l_val (r_fieldAddr 1 Try.underlying52 rfl tyC50.size rfl rfl rfl) rfl rfl ?_
              refine l_storeC hW 2 tyC50 (v := .slice _ _ _) rfl rfl rfl rfl rfl rfl (by first | rfl | omega | (simp; done) | (simp; omega)) rfl ?_
              intro W hW
              refine l_end ?_
              refine n_then ?_
              refine c_seq ?_
              refine c_reg ?_
              refine l_loadA hW 2 tyA52 rfl rfl rfl rfl rfl (by first | rfl | exact kc_len _ | exact kcf_len _ | (simp; done)) ?_
              refine l_storeA hW 3 tyA52 rfl rfl rfl rfl rfl rfl (by first | rfl | exact kc_len _ | exact kcf_len _ | (simp; done)) (by first | rfl | exact kc_len _ | exact kcf_len _ | (simp; done)) (by first | exact kc_one _ | exact kcf_one _ | (simp [Value.oneCell']; done)) ?_
              intro W hW
              refine l_val (r_assign (v := .int _ _) rfl rfl) rfl rfl ?_
              refine l_end ?_
              refine n_then ?_
              refine c_ret ?_
              refine ret_cell_tmp hW 3 tyA52 rfl rfl rfl (by first | rfl | exact kc_len _ | exact kcf_len _ | (simp; done)) rfl ?_
              have e := hear_0 (n := n) hvb (by omega) (by omega)
              have h0 : heard h 0 = ⟨h.users, h.ps, [], merged h.named h.rest, h.rounds + 1⟩ := by rw [heard_zero, if_pos (by omega), if_pos (by omega)]
              obtain rfl : n = 0 := by omega
              have hss : ssN.length = 2 * pn := by omega
              have hF : OwnHu 99 ⟨h.users, h.ps, [], merged h.named h.rest, h.rounds + 1⟩ ⟨some ⟨gr, 0, none⟩, pn + 1 - 1, c1⟩ Sl.no rn ssN Bx (N ++ BsN) := by
                refine ⟨?_, hH.len, hH.ps.sub (List.sublist_append_left _ _), NewI.no.sub (List.nil_sublist _), by rw [← mgn]; exact hrn.sub (List.sublist_append_right _ _)⟩
                rw [show (pn + 1) * 2 = 2 * pn + 2 by omega, show pn * 2 = 2 * pn by omega, ← List.map_take, ← List.map_drop, ← List.map_append, sk_end hss] at hO3
                exact hO3
              exact ⟨_, (N ++ BsN) ++ Bx, rfl, ⟨_, by rw [e]; rfl, by rw [e, h0]; exact ⟨_, _, _, _, rfl, hF.newHu (List.sublist_append_left _ _) (List.sublist_append_right _ _)⟩⟩, (show Cl _ ((N ++ BsN) ++ Bx) _ from hW.drop 5)⟩
            · intro hc9
              replace hc9 := of_decide_eq_false hc9
              refine l_end ?_
              refine n_then ?_
              refine c_false rfl ?_
              refine c_regM hW [] [.q, .q, .q, .q, .mk 0, .q, .tail] [⟨128, fun _ v Bs => ∃ s0 s1 : Sl, v = .agg [s0.v, s1.v].toArray ∧ NewI s0 (h.rest.take (halfN h.rest)) Bs ∧ NewI s1 (h.rest.drop (halfN h.rest)) Bs⟩] [[]] [4] [0, 1, 0, 0, 8, 31, 63] (by kernel_rfl) (by kernel_rfl) rfl (by kernel_rfl) ?_
              refine y_val (r_fieldAddr 1 Try.underlying52 rfl tyC50.size rfl rfl rfl) rfl rfl ?_
              refine y_loadC 1 tyC50 rfl rfl rfl rfl rfl rfl (by decide) ?_
              refine y_val (r_move (v := .int _ _) rfl rfl) rfl rfl ?_
              refine y_val (r_move (v := .slice _ _ _) rfl rfl) rfl rfl ?_
              refine y_callX 0 (g_halves r1.a r1.n r1.c h.rest (by omega)) en51 rfl rfl (fun L2 w hs hC => hH.rest.rep.at hC ((List.sublist_append_right [_, _, _, _, _] N).trans hs.pre)) rfl rfl ?_
              refine y_val (r_indexAddrSl (n := pn) Try.underlying50 tyA99.size rfl rfl rfl (by first | omega | (simp only; omega))) rfl rfl ?_
              refine y_tail ?_
              refine y_made ?_
              rintro _ BsH ⟨t0, t1, rfl, ht0, ht1⟩
              intro W hW
              replace hW := hW.perm List.perm_append_comm
              obtain ⟨_, _, _, _, _, hil⟩ := hO1.pair (i := pn) (by first | omega | (simp only; omega))
              refine l_storeP hW 4 tyA99 (i := 0 + pn * 2) (vs := [t0.v, t1.v]) rfl rfl rfl rfl rfl rfl (by omega) rfl (by simp [Sl.v, Value.oneCell']) ?_
              intro W hW
              rw [Nat.zero_add] at hW
              refine l_end ?_
              refine n_then ?_
              refine c_seq ?_
              refine c_reg ?_
              refine l_loadA hW 1 tyA52 rfl rfl rfl rfl rfl (by first | rfl | exact kc_len _ | exact kcf_len _ | (simp; done)) ?_
              refine l_storeA hW 2 tyA52 rfl rfl rfl rfl rfl rfl (by first | rfl | exact kc_len _ | exact kcf_len _ | (simp; done)) (by first | rfl | exact kc_len _ | exact kcf_len _ | (simp; done)) (by first | exact kc_one _ | exact kcf_one _ | (simp [Value.oneCell']; done)) ?_
              intro W hW
              refine l_val (r_assign (v := .int _ _) rfl rfl) rfl rfl ?_
              refine l_end ?_
              refine n_then ?_
              refine c_ret ?_
              refine ret_cell_tmp hW 2 tyA52 rfl rfl rfl (by first | rfl | exact kc_len _ | exact kcf_len _ | (simp; done)) rfl ?_
              have e := hear_0 (n := n) hvb (by omega) (by omega)
              have h0 : heard h 0 = ⟨h.users, h.ps ++ [h.rest.take (halfN h.rest), h.rest.drop (halfN h.rest)], [], h.named, h.rounds + 1⟩ := by rw [heard_zero, if_neg (by omega), if_neg (by omega)]
              obtain rfl : n = 0 := by omega
              have hss : ssN.length = 2 * pn := by omega
              have hF : OwnHu 99 ⟨h.users, h.ps ++ [h.rest.take (halfN h.rest), h.rest.drop (halfN h.rest)], [], h.named, h.rounds + 1⟩ ⟨some ⟨gr, 0, none⟩, pn + 1, c1⟩ Sl.no q1 (ssN ++ [t0, t1]) [⟨gr, cur.take (pn * 2) ++ [t0.v, t1.v] ++ cur.drop (pn * 2 + 2), 99⟩] (N ++ BsH) := by
                have hr := hO1.two (i := pn) (t0 := t0) (t1 := t1) (by omega)
                rw [set_end hss] at hr
                exact ⟨hr, by rw [List.length_append, List.length_append]; simp only [List.length_cons, List.length_nil]; rw [hH.len], hH.ps.add hH.len (List.sublist_append_left _ _) (ht0.sub (List.sublist_append_right _ _)) (ht1.sub (List.sublist_append_right _ _)), NewI.no.sub (List.nil_sublist _), hH.named.sub (List.sublist_append_left _ _)⟩
              exact ⟨_, (N ++ BsH) ++ [_], rfl, ⟨_, by rw [e]; rfl, by rw [e, h0]; exact ⟨_, _, _, _, rfl, hF.newHu (List.sublist_append_left _ _) (List.sublist_append_right _ _)⟩⟩, (show Cl _ (_ :: (N ++ BsH)) _ from hW.drop 4).perm (List.perm_append_singleton _ _).symm⟩
    · intro hc2
      refine l_valG (r_not rfl rfl) (by kernel_rfl) rfl ?_
      refine l_val (r_pick (v := .bool _) rfl rfl rfl) rfl rfl ?_
      refine l_end ?_
      refine n_then ?_
      refine c_true rfl ?_
      refine c_seq ?_
      refine c_reg ?_
      refine l_val (r_build (ps := []) (bld52_) rfl rfl) rfl rfl ?_
      refine l_storeA hW 0 tyA52 rfl rfl rfl rfl rfl rfl (by first | rfl | exact kc_len _ | exact kcf_len _ | (simp; done)) (by first | rfl | exact kc_len _ | exact kcf_len _ | (simp; done)) (by first | exact kc_one _ | exact kcf_one _ | (simp [Value.oneCell']; done)) ?_
      intro W hW
      refine l_val (r_assign (v := .int _ _) rfl rfl) rfl rfl ?_
      refine l_end ?_
      refine n_then ?_
      refine c_ret ?_
      refine r_then ?_
      refine ret_cell_tmp hW 0 tyA52 rfl rfl rfl (by first | rfl | exact kc_len _ | exact kcf_len _ | (simp; done)) rfl ?_
      have e := hear_80 (x := (n : Int)) hvb (by rw [hv.has_variant _ (by omega)] at hc2; have hx := of_decide_eq_false hc2; rcases Classical.em (h.rest.length = 0) with h0 | h0 <;> by_cases h1 : n = 0 <;> by_cases h2 : n ≤ h.ps.length <;> first | omega | exact absurd ⟨by omega, fun _ h3 => h0 (by rw [h3]; rfl)⟩ hx | exact absurd ⟨by omega, fun h3 => absurd (by omega : n = 0) h1⟩ hx)
      exact ⟨_, [], rfl, ⟨.agg (huC noHunt Sl.no Sl.no Sl.no).toArray, by rw [e]; rfl, by rw [e]; exact ⟨_, _, _, _, rfl, no_newHu⟩⟩, hW.sub (List.nil_sublist _)⟩

end Go.Proofs.Ytoegpalacppllaa

