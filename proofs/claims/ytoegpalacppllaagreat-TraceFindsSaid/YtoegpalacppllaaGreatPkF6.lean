/- For every box of at most 100 receivers, every list of at most 100 subsets and every noise: the finding of a trace and the box after it, or the error, by the program are those of the reference, the finding is in new memory, and the box and the partition are not changed; no conditions. -/
import Derived.Test.YtoegpalacppllaaGreatPkF5
import Derived.Test.YtoegpalacppllaaGreatRows
/- A trace, by the program, with its errors. -/
namespace Go.Proofs.YtoegpalacppllaaGreat
open Go.RowKit Pl
open Tr Hn
theorem traced_ask {N : Nat} {b0 : Bo} {tot : List Int} (hs : schB b0.s = true) (ht : tot.Nodup) (hr : ∀ x ∈ tot, 0 ≤ x ∧ x < 64) : ∀ {k : Nat} {t : Ts}, Tin N b0 tot t → Askd b0 (tracedN N k t).1.b (tracedN N k t).1.a
 | 0, t, hi => hi.ask
 | k + 1, t, hi => by
  obtain ⟨h1, h2, -⟩ := hi.round hs ht hr
  by_cases h : (roundN N t).2 = 0
  ·rw [tracedN_0 h]; exact traced_ask hs ht hr (h1 h).1
  ·rw [tracedN_e h]; exact h2
theorem pickT2 {b : Base} {W : World} {x : Blk} {X A B : List Blk} (h : Cl b ((x :: B) ++ (X ++ A)) W) : Cl b (((x :: X) ++ A) ++ B) W := h.perm (by classical exact List.perm_iff_count.2 fun y => by simp only [List.count_append, List.count_cons]; omega)
theorem pickT3 {b : Base} {W : World} {X A B : List Blk} (h : Cl b ((X ++ A) ++ B) W) : Cl b (B ++ A) W := h.pick X (by classical exact List.perm_iff_count.2 fun y => by simp only [List.count_append]; omega)
theorem bld_tr (b : Bo) (t : Sl) (n : Int) (x0 x1 x2 x3 : Value) : ∀ w, (Instr.build 124 [(0, .agg (boC b t).toArray), (1, .int .i64 n), (2, .agg [x0, x1, x2, x3].toArray)].toArray).run Tryz.prog w = .ok (.agg (boC b t ++ [.int .i64 n, x0, x1, x2, x3]).toArray) w := fun _ => by kernel_rfl
set_option maxRecDepth 10000 in
set_option maxHeartbeats 2000000 in
/-- headend/trace.Trace -/
theorem g_Trace (b : Bo) (t : Sl) (ra : Option Addr) (rn rc : Nat) (l : List (Int × Int)) (noise : Int) (hl : b.l.length ≤ 100) (hq : l.length ≤ 100) : GivesX Tryz.prog 18 [.agg (boC b t).toArray, .slice ra rn rc, .int .i64 noise].toArray (fun w => RdI w t b.l ∧ RdB w ⟨ra, rn, rc⟩ l) (fun v Bs => ∃ fv bv : List Value, v = .tuple #[.agg fv.toArray, .agg bv.toArray, .int .i64 (traceE b l noise)] ∧ foundX 64 (traceT b l noise) fv bv Bs) := by
 refine givesX_of Tryz.func18 rfl (bs := [.agg (boC b t).toArray, .slice ra rn rc, .int .i64 noise, undef, undef, undef, undef, undef, undef, undef, undef, undef, undef, undef, undef, undef, undef, undef, undef, undef, undef, undef, undef, undef, undef, undef, undef, undef, undef, undef, undef, undef, undef, undef, undef, undef, undef, undef, undef, undef, undef, undef, undef, undef, undef, undef, undef, undef, undef, undef, undef, undef, undef, undef, undef, undef, undef, undef, undef, undef, undef, undef, undef, undef, undef, undef]) rfl ?_
 intro w hP hW
 refine c_seq (c_reg ?_)
 refine xB hW ?_
 intro g1 W hW
 refine l_alloc hW tyZ38 rfl rfl rfl ?_
 intro g2 W hW
 refine l_alloc hW tyZ31 rfl rfl rfl ?_
 intro g3 W hW
 refine bI ?_
 refine l_end (n_then (c_seq (c_reg ?_)))
 refine dA hW 2 tyA31 ?_
 refine l_callR hW (g_CheckBox b t hl) en36 (hP.1.past hW.below) rfl rfl rfl rfl ?_
 intro W hW
 refine bI ?_
 refine l_end (n_then (c_seq (c_seq (c_reg ?_))))
 refine aI ?_
 refine l_val (r_eql rfl rfl rfl rfl) rfl rfl ?_
 refine l_split ?_ ?_
 ·intro hc1
  replace hc1 := of_decide_eq_true hc1
  obtain ⟨hs, hu, hb1, hb2, hb3, hb4, hb5, hb6, hb7, hb8, hb9, hb10⟩ := chkB_ok (fun e => e hc1)
  refine l_end (n_then ?_)
  refine c_true rfl ?_
  refine c_reg ?_
  refine l_val (r_fieldAddr 0 Tryz.underlying31 rfl tyA26.size rfl rfl rfl) rfl rfl ?_
  refine l_loadP hW 2 tyA26 rfl rfl rfl rfl rfl (by first | rfl | omega | (simp; done) | (simp; omega)) rfl ?_
  refine aS ?_
  refine l_callR hW (g_CheckParts b.s ra rn rc l hq) en37 (hP.2.past hW.below) rfl rfl rfl rfl ?_
  intro W hW
  refine bI ?_
  refine l_end (n_then (c_seq (c_reg ?_)))
  refine l_val (r_fieldAddr 0 Tryz.underlying31 rfl tyA26.size rfl rfl rfl) rfl rfl ?_
  refine l_loadP hW 2 tyA26 rfl rfl rfl rfl rfl (by first | rfl | omega | (simp; done) | (simp; omega)) rfl ?_
  refine aI ?_
  refine l_call hW (g_Bound _ _) en44 rfl rfl rfl rfl ?_
  intro W hW
  refine l_val (r_move (v := .tuple _) rfl rfl) rfl rfl ?_
  refine l_val (r_extract (v := .int _ _) rfl rfl rfl) rfl rfl ?_
  refine l_val (r_extract (v := .int _ _) rfl rfl rfl) rfl rfl ?_
  refine bI ?_
  refine bI ?_
  refine l_end (n_then (c_seq (c_seq (c_reg ?_))))
  refine aI ?_
  refine l_val (r_eql rfl rfl rfl rfl) rfl rfl ?_
  refine l_split ?_ ?_
  ·intro hc2
   replace hc2 := of_decide_eq_true hc2
   obtain ⟨-, hpe, hnd⟩ := parts_ok (fun e => e hc2)
   obtain ⟨hq2, hbb⟩ := subsE_ok (show ¬ subsE b.s l ≠ 0 by omega)
   refine l_end (n_then ?_)
   refine c_true rfl ?_
   refine c_reg ?_
   refine aI ?_
   refine bI ?_
   refine l_end (n_then (c_seq (c_seq (c_reg ?_))))
   refine aI ?_
   refine l_val (r_eql rfl rfl rfl rfl) rfl rfl ?_
   refine l_split ?_ ?_
   ·intro hc3
    replace hc3 := of_decide_eq_true hc3
    have hbv0 : boundV b.s noise ≤ 17544 ∧ 0 ≤ boundV b.s noise := by
     have hno : 0 ≤ noise ∧ noise ≤ 8 := Classical.byContradiction fun h => absurd ((bound_arg hs h).2.symm.trans hc3) (by decide)
     rw [(bound_ok hs hno).1]
     have := schB_iff.1 hs
     have := lim_b (d := b.s.d) (n := noise) (by omega) (by omega) hno.1 hno.2
     omega
    refine aB ?_
    refine l_valG (r_fieldAddr 26 Tryz.underlying31 rfl tyC3.size rfl rfl rfl) (by kernel_rfl) rfl ?_
    refine dG hW 2 tyC3 ?_
    refine gI ?_
    refine l_valG (r_addZ rfl rfl rfl (by omega)) (by kernel_rfl) rfl ?_
    refine l_valG (r_gtr rfl rfl rfl rfl) (by kernel_rfl) rfl ?_
    refine l_split ?_ ?_
    ·intro hc4
     replace hc4 := of_decide_eq_true hc4
     refine kB ?_
     refine l_end (n_then ?_)
     refine c_true rfl ?_
     refine c_reg ?_
     refine bI ?_
     refine l_end (n_then (c_seq (c_seq (c_reg ?_))))
     refine aI ?_
     refine l_val (r_neq (b := true) rfl rfl rfl (by decide)) rfl rfl ?_
     refine l_end (n_then ?_)
     refine c_true rfl ?_
     refine c_seq (c_reg ?_)
     refine l_val (r_build (ps := []) (bld38_) rfl rfl) rfl rfl ?_
     refine l_val (r_build (ps := []) (bld31_) rfl rfl) rfl rfl ?_
     refine aI ?_
     refine sA hW 1 tyA38 ?_
     intro W hW
     refine sA hW 0 tyA31 ?_
     intro W hW
     refine bI ?_
     refine l_end (n_then (c_ret (r_then ?_)))
     refine ret_cell2_tmp hW 1 0 tyA38 tyA31 rfl rfl rfl rfl rfl (by first | rfl | exact kc_len _ | exact kcf_len _ | exact boC_len _ _ | (simp; done)) (by first | rfl | exact kc_len _ | exact kcf_len _ | exact boC_len _ _ | (simp; done)) rfl ?_
     have hno : 0 ≤ noise ∧ noise ≤ 8 := Classical.byContradiction fun h => absurd ((bound_arg hs h).2.symm.trans hc3) (by decide)
     have e : traceE b l noise = 9 := trE_f (fun e => e hc1) (fun e => e hc2) hno (by rw [← (bound_ok hs hno).1]; exact hc4)
     exact ⟨_, [], rfl, ⟨z38, z31, by rw [e]; rfl, by rw [traceT, if_neg (by rw [e]; decide), z38_no, z31_no]; exact found_no 64⟩, hW.sub (List.nil_sublist _)⟩
    ·intro hc4
     replace hc4 := of_decide_eq_false hc4
     refine kB ?_
     refine l_end (n_then ?_)
     refine c_false rfl ?_
     refine c_skip (n_then (c_seq (c_seq (c_reg ?_))))
     refine aI ?_
     refine l_val (r_neq rfl rfl rfl rfl) rfl rfl ?_
     refine l_split ?_ ?_
     ·intro hc5
      replace hc5 := of_decide_eq_true hc5
      exact absurd hc3 hc5
     ·intro hc5
      replace hc5 := of_decide_eq_false hc5
      have hno : 0 ≤ noise ∧ noise ≤ 8 := Classical.byContradiction fun h => absurd ((bound_arg hs h).2.symm.trans hc3) (by decide)
      have hbv := (bound_ok hs hno).1
      obtain ⟨nn, rfl⟩ : ∃ nn : Nat, noise = nn := ⟨noise.toNat, by omega⟩
      have hd0 := (schB_iff.1 hs).2.2.1
      have hln := lim_nat (d := b.s.d) (n := (nn : Int)) hd0 hno.1
      rw [Int.toNat_natCast] at hln
      have hbs6 : b.s.d ≤ 6 := (schB_iff.1 hs).2.2.2.1
      have hp6 := p2_le (n := b.s.d.toNat) (by omega)
      refine l_end (n_then ?_)
      refine c_false rfl ?_
      refine c_skip (n_then (c_seq (c_reg ?_)))
      refine l_val (r_fieldAddr 6 Tryz.underlying31 rfl tyC27.size rfl rfl rfl) rfl rfl ?_
      refine dC hW 2 tyC27 ?_
      refine l_callX hW (g_Clone t.a t.n t.c b.l (by omega)) en60 (hP.1.past hW.below) rfl rfl rfl rfl ?_
      rintro _ BC W ⟨s2, rfl, hNC⟩ hW
      refine l_val (r_fieldAddr 6 Tryz.underlying31 rfl tyC27.size rfl rfl rfl) rfl rfl ?_
      refine l_storeC hW 2 tyC27 (v := s2.v) rfl rfl rfl rfl rfl rfl (by rw [boC_len]; decide) rfl ?_
      intro W hW
      replace hW := (show Cl _ ([_, _, ⟨_, (boC b t).set 6 s2.v, _⟩] ++ BC) _ from hW)
      rw [boC_setL] at hW
      refine l_end (n_then (c_seq ?_))
      refine c_regMv hW 1 50 _ _ [] [.q, .q, .q, .mk 0, .tail, .tail, .tail, .tail] [⟨52, fun _ => NewSl 64 2 l.length (sl2 l)⟩] [[]] [3] [0, 0, 0, 4, 12, 31, 63, 127] [] [.q, .q, .q, .q, .q, .q, .tail, .tail] [] [] [2, 3] [4, 5, 6, 7] [0] (by kernel_rfl) rfl rfl rfl (r_move (v := .int _ _) rfl rfl) (fun _ _ _ h => by first | exact h | exact h.elim) (by kernel_rfl) (by kernel_rfl) rfl (by kernel_rfl) (by kernel_rfl) [(0, _, _)] rfl ⟨rfl, trivial⟩ ⟨fun _ w hs hC => run_loadP_at tyA31 2 rfl rfl (hs 2 _ (by decide) rfl) (by rw [boC_len]; decide) (take_all (boC_len _ _)) w hC, _, rfl, trivial⟩ ?_
      refine yS ?_
      refine y_callX 0 (g_CloneB ra rn rc l (by omega)) en61 rfl rfl (fun L2 w hs hC => hP.2.past hC.below) rfl rfl ?_
      refine y_tail ?_
      refine y_made ?_
      rintro _ BLc ⟨aL, cL, rfl, hOL⟩
      refine ⟨[], [], ⟨rfl, rfl⟩, ?_⟩
      refine y_loadA (BLc.length + 2) tyA31 rfl rfl rfl rfl (at_app rfl) (boC_len _ _) (by simp) ?_
      refine y_val (r_build (ps := [(1, .slice _ _ _)]) (bld38_1 _ _ _) rfl rfl) rfl rfl ?_
      refine y_val (r_build (ps := [(0, .agg _), (1, .int _ _), (2, .agg _)]) (bld_tr _ _ _ _ _ _ _) rfl rfl) rfl rfl ?_
      refine y_tail ?_
      intro W hW
      refine l_box hW (cs := boC b s2 ++ trR nn Sl.no ⟨aL, l.length, cL⟩ 0 0) rfl rfl rfl rfl ?_
      intro gx W hW
      refine l_val (r_assign (v := .pointer _) rfl rfl) rfl rfl ?_
      refine l_end (n_then (c_seq (c_reg ?_)))
      refine aP ?_
      refine l_callS (B := [_] ++ BLc) (L := [_, _, _] ++ BC) (g_run b s2 gx nn aL cL l BLc hOL hs hu (by omega) (by omega) (by omega) (by omega) (by omega) (by omega) hl (by omega) hbb hnd (by omega)) (show Cl _ (([_] ++ BLc) ++ ([_, _, _] ++ BC)) _ from hW) en62 (fun W hC => hNC.rep.at hC (List.sublist_append_right _ BC)) rfl rfl rfl rfl ?_
      rintro _ _ W ⟨n2, la2, lc2, BN, BL, rfl, h1, h2⟩ hW
      have htl : (traced (2 * nn + 1) ⟨b, l, [], 0⟩).1.b.l = b.l := (traced_ask hs hnd (fun x hx => by have := all_lt hx; omega) (Tin.first hs (by omega) (by omega) hbb hnd)).l
      obtain ⟨R, hR⟩ : ∃ R, R = traced (2 * nn + 1) ⟨b, l, [], 0⟩ := ⟨_, rfl⟩
      rw [← hR] at h1 h2 hW htl
      replace hW := pickT2 (X := [_, _, _]) hW
      refine l_end (n_then (c_seq ?_))
      refine c_regY hW [2, 1] [.q, .q, .q, .q, .q, .q, .q, .q, .s, .s, .q] [0, 1, 3, 7, 0, 16, 48, 112, 15, 511, 1023] (by kernel_rfl) (by kernel_rfl) ?_
      refine y_val (r_move (v := .pointer _) rfl rfl) rfl rfl ?_
      refine y_val (r_nilCheck rfl rfl) rfl rfl ?_
      refine y_val (r_fieldAddr 29 Tryz.underlying124 rfl tyA38.size rfl rfl rfl) rfl rfl ?_
      refine y_loadP 0 tyA38 rfl rfl rfl rfl rfl (trR_len (k := 32) (by decide)) (show _ = fiC n2 ⟨la2, R.1.l.length, lc2⟩ R.1.a R.2 from rfl) (by decide) ?_
      refine y_val (r_move (v := .pointer _) rfl rfl) rfl rfl ?_
      refine y_val (r_nilCheck rfl rfl) rfl rfl ?_
      refine y_val (r_fieldAddr 0 Tryz.underlying124 rfl tyA31.size rfl rfl rfl) rfl rfl ?_
      refine y_loadP 0 tyA31 rfl rfl rfl rfl rfl (by rw [List.length_append, boC_len]; omega) (boC_boxR _ _ _) (by decide) ?_
      refine y_storeA 2 tyA38 rfl rfl rfl rfl rfl rfl (by first | rfl | exact kc_len _ | exact kcf_len _ | exact boC_len _ _ | (simp; done)) (by first | rfl | exact kc_len _ | exact kcf_len _ | exact boC_len _ _ | (simp; done)) (by first | exact kc_one _ | exact kcf_one _ | exact boC_one _ _ | (simp [Value.oneCell']; done)) (by decide) ?_
      refine y_storeA 1 tyA31 rfl rfl rfl rfl rfl rfl (by first | rfl | exact kc_len _ | exact kcf_len _ | exact boC_len _ _ | (simp; done)) (by first | rfl | exact kc_len _ | exact kcf_len _ | exact boC_len _ _ | (simp; done)) (by first | exact kc_one _ | exact kcf_one _ | exact boC_one _ _ | (simp [Value.oneCell']; done)) (by decide) ?_
      refine y_val (r_assign (v := .int _ _) rfl rfl) rfl rfl ?_
      refine y_end ?_
      intro W hW
      refine n_then (c_ret ?_)
      refine ret_cell2_tmp hW 2 1 tyA38 tyA31 rfl rfl rfl rfl rfl (by first | rfl | exact kc_len _ | exact kcf_len _ | exact boC_len _ _ | (simp; done)) (by first | rfl | exact kc_len _ | exact kcf_len _ | exact boC_len _ _ | (simp; done)) rfl ?_
      have e : traceE b l nn = 0 := trE_0 (fun e => e hc1) (fun e => e hc2) hno (by rw [← (bound_ok hs hno).1]; exact hc4)
      exact ⟨_, (BN ++ BL) ++ BC, rfl, ⟨_, _, by rw [e]; rfl, by rw [traceT, if_pos e, Int.toNat_natCast, ← hR]; exact ⟨n2, la2, lc2, s2, BN, BL, BC, rfl, rfl, rfl, h1, h2, by rw [htl]; exact hNC⟩⟩, pickT3 (show Cl _ (([_, _, _, _] ++ BC) ++ (BN ++ BL)) _ from hW)⟩
   ·intro hc3
    replace hc3 := of_decide_eq_false hc3
    refine aB ?_
    refine lN ?_
    refine lN ?_
    refine lN ?_
    refine lN ?_
    refine lN ?_
    refine kB ?_
    refine l_end (n_then ?_)
    refine c_false rfl ?_
    refine c_skip (n_then (c_seq (c_seq (c_reg ?_))))
    refine aI ?_
    refine l_val (r_neq rfl rfl rfl rfl) rfl rfl ?_
    refine l_split ?_ ?_
    ·intro hc6
     replace hc6 := of_decide_eq_true hc6
     refine l_end (n_then ?_)
     refine c_true rfl ?_
     refine c_seq (c_reg ?_)
     refine l_val (r_build (ps := []) (bld38_) rfl rfl) rfl rfl ?_
     refine l_val (r_build (ps := []) (bld31_) rfl rfl) rfl rfl ?_
     refine aI ?_
     refine sA hW 1 tyA38 ?_
     intro W hW
     refine sA hW 0 tyA31 ?_
     intro W hW
     refine bI ?_
     refine l_end (n_then (c_ret (r_then ?_)))
     refine ret_cell2_tmp hW 1 0 tyA38 tyA31 rfl rfl rfl rfl rfl (by first | rfl | exact kc_len _ | exact kcf_len _ | exact boC_len _ _ | (simp; done)) (by first | rfl | exact kc_len _ | exact kcf_len _ | exact boC_len _ _ | (simp; done)) rfl ?_
     have hno : ¬ (0 ≤ noise ∧ noise ≤ 8) := fun h => hc3 (bound_ok hs h).2
     have hbe := (bound_arg hs hno).2
     have e : traceE b l noise = 2 := trE_n (fun e => e hc1) (fun e => e hc2) hno
     exact ⟨_, [], rfl, ⟨z38, z31, by rw [e, hbe]; rfl, by rw [traceT, if_neg (by rw [e]; decide), z38_no, z31_no]; exact found_no 64⟩, hW.sub (List.nil_sublist _)⟩
    ·intro hc6
     replace hc6 := of_decide_eq_false hc6
     exact (hc6 hc3).elim
  ·intro hc2
   replace hc2 := of_decide_eq_false hc2
   refine l_end (n_then ?_)
   refine c_false rfl ?_
   refine c_skip (n_then (c_seq (c_seq (c_reg ?_))))
   refine aI ?_
   refine l_val (r_eql rfl rfl rfl rfl) rfl rfl ?_
   refine l_split ?_ ?_
   ·intro hc7
    replace hc7 := of_decide_eq_true hc7
    exact absurd hc7 hc2
   ·intro hc7
    replace hc7 := of_decide_eq_false hc7
    refine aB ?_
    refine lN ?_
    refine lN ?_
    refine lN ?_
    refine lN ?_
    refine lN ?_
    refine kB ?_
    refine l_end (n_then ?_)
    refine c_false rfl ?_
    refine c_skip (n_then (c_seq (c_seq (c_reg ?_))))
    refine aI ?_
    refine l_val (r_neq rfl rfl rfl rfl) rfl rfl ?_
    refine l_split ?_ ?_
    ·intro hc8
     replace hc8 := of_decide_eq_true hc8
     refine l_end (n_then ?_)
     refine c_true rfl ?_
     refine c_seq (c_reg ?_)
     refine l_val (r_build (ps := []) (bld38_) rfl rfl) rfl rfl ?_
     refine l_val (r_build (ps := []) (bld31_) rfl rfl) rfl rfl ?_
     refine aI ?_
     refine sA hW 1 tyA38 ?_
     intro W hW
     refine sA hW 0 tyA31 ?_
     intro W hW
     refine bI ?_
     refine l_end (n_then (c_ret (r_then ?_)))
     refine ret_cell2_tmp hW 1 0 tyA38 tyA31 rfl rfl rfl rfl rfl (by first | rfl | exact kc_len _ | exact kcf_len _ | exact boC_len _ _ | (simp; done)) (by first | rfl | exact kc_len _ | exact kcf_len _ | exact boC_len _ _ | (simp; done)) rfl ?_
     have e : traceE b l noise = partsE b.s l := trE_p (fun e => e hc1) hc2
     exact ⟨_, [], rfl, ⟨z38, z31, by rw [e]; rfl, by rw [traceT, if_neg (by rw [e]; exact hc2), z38_no, z31_no]; exact found_no 64⟩, hW.sub (List.nil_sublist _)⟩
    ·intro hc8
     replace hc8 := of_decide_eq_false hc8
     exact (hc8 hc7).elim
 ·intro hc1
  replace hc1 := of_decide_eq_false hc1
  refine l_end (n_then ?_)
  refine c_false rfl ?_
  refine c_skip (n_then (c_seq (c_reg ?_)))
  refine l_val (r_fieldAddr 0 Tryz.underlying31 rfl tyA26.size rfl rfl rfl) rfl rfl ?_
  refine l_loadP hW 2 tyA26 rfl rfl rfl rfl rfl (by first | rfl | omega | (simp; done) | (simp; omega)) rfl ?_
  refine aI ?_
  refine l_call hW (g_Bound _ _) en44 rfl rfl rfl rfl ?_
  intro W hW
  refine l_val (r_move (v := .tuple _) rfl rfl) rfl rfl ?_
  refine l_val (r_extract (v := .int _ _) rfl rfl rfl) rfl rfl ?_
  refine l_val (r_extract (v := .int _ _) rfl rfl rfl) rfl rfl ?_
  refine bI ?_
  refine bI ?_
  refine l_end (n_then (c_seq (c_seq (c_reg ?_))))
  refine aI ?_
  refine l_val (r_eql rfl rfl rfl rfl) rfl rfl ?_
  refine l_split ?_ ?_
  ·intro hc9
   replace hc9 := of_decide_eq_true hc9
   exact absurd hc9 hc1
  ·intro hc9
   replace hc9 := of_decide_eq_false hc9
   refine l_end (n_then ?_)
   refine c_false rfl ?_
   refine c_skip (n_then (c_seq (c_seq (c_reg ?_))))
   refine aI ?_
   refine l_val (r_eql rfl rfl rfl rfl) rfl rfl ?_
   refine l_split ?_ ?_
   ·intro hc10
    replace hc10 := of_decide_eq_true hc10
    exact absurd hc10 hc9
   ·intro hc10
    replace hc10 := of_decide_eq_false hc10
    refine aB ?_
    refine lN ?_
    refine lN ?_
    refine lN ?_
    refine lN ?_
    refine lN ?_
    refine kB ?_
    refine l_end (n_then ?_)
    refine c_false rfl ?_
    refine c_skip (n_then (c_seq (c_seq (c_reg ?_))))
    refine aI ?_
    refine l_val (r_neq rfl rfl rfl rfl) rfl rfl ?_
    refine l_split ?_ ?_
    ·intro hc11
     replace hc11 := of_decide_eq_true hc11
     refine l_end (n_then ?_)
     refine c_true rfl ?_
     refine c_seq (c_reg ?_)
     refine l_val (r_build (ps := []) (bld38_) rfl rfl) rfl rfl ?_
     refine l_val (r_build (ps := []) (bld31_) rfl rfl) rfl rfl ?_
     refine aI ?_
     refine sA hW 1 tyA38 ?_
     intro W hW
     refine sA hW 0 tyA31 ?_
     intro W hW
     refine bI ?_
     refine l_end (n_then (c_ret (r_then ?_)))
     refine ret_cell2_tmp hW 1 0 tyA38 tyA31 rfl rfl rfl rfl rfl (by first | rfl | exact kc_len _ | exact kcf_len _ | exact boC_len _ _ | (simp; done)) (by first | rfl | exact kc_len _ | exact kcf_len _ | exact boC_len _ _ | (simp; done)) rfl ?_
     have e : traceE b l noise = chkB b := trE_b hc1
     exact ⟨_, [], rfl, ⟨z38, z31, by rw [e]; rfl, by rw [traceT, if_neg (by rw [e]; exact hc1), z38_no, z31_no]; exact found_no 64⟩, hW.sub (List.nil_sublist _)⟩
    ·intro hc11
     replace hc11 := of_decide_eq_false hc11
     exact (hc11 hc10).elim

end Go.Proofs.YtoegpalacppllaaGreat

/- The law of findings. -/
namespace Go.Proofs.YtoegpalacppllaaGreat
open Go.RowKit Pl
open Tr Hn
theorem traced_part {N : Nat} {b0 : Bo} {tot : List Int} (hs : schB b0.s = true) (ht : tot.Nodup) (hr : ∀ x ∈ tot, 0 ≤ x ∧ x < 64) : ∀ {k : Nat} {t : Ts}, Tin N b0 tot t → Part b0.s tot (tracedN N k t).1.l (tracedN N k t).1.nm
 | 0, t, hi => hi.part
 | k + 1, t, hi => by
  obtain ⟨h1, -, -, h2⟩ := hi.round hs ht hr
  by_cases h : (roundN N t).2 = 0
  ·rw [tracedN_0 h]; exact traced_part hs ht hr (h1 h).1
  ·rw [tracedN_e h]; exact h2
theorem traceT_fit {b : Bo} {l : List (Int × Int)} {noise : Int} (hl : b.l.length ≤ 100) : (traceT b l noise).1.nm.length ≤ 64 ∧ (traceT b l noise).1.l.length ≤ 64 ∧ (traceT b l noise).1.b.l.length ≤ 100 := by
 unfold traceT
 split
 ·next h =>
  by_cases hc : chkB b ≠ 0
  ·rw [trE_b hc] at h; exact absurd h hc
  ·by_cases hp : partsE b.s l ≠ 0
   ·rw [trE_p hc hp] at h; exact absurd h hp
   ·obtain ⟨hs, hu, h1, h2, h3, h4, h5, h6, h7, h8, h9, h10⟩ := chkB_ok hc
    obtain ⟨-, hpe, hnd⟩ := parts_ok hp
    obtain ⟨hq2, hbb⟩ := subsE_ok (show ¬ subsE b.s l ≠ 0 by omega)
    have hd := schB_iff.1 hs
    have hp6 := p2_le (n := b.s.d.toNat) (by omega)
    have hrg : ∀ x ∈ allm b.s l, 0 ≤ x ∧ x < 64 := fun x hx => by
     have := all_lt hx
     omega
    have ht := Tin.first (N := 2 * noise.toNat + 1) hs h9 h10 hbb hnd
    have h11 := traced_part hs hnd hrg ht (k := (⟨b, l, [], 0⟩ : Ts).pot + 1)
    have h12 := (traced_ask hs hnd hrg ht (k := (⟨b, l, [], 0⟩ : Ts).pot + 1)).l
    obtain ⟨h13, h14⟩ := len_le hs hnd h11
    refine ⟨?_, ?_, ?_⟩
    ·have h1 := (List.nodup_append.1 ((h11.perm.nodup_iff).2 hnd)).2.1
     have h2 := List.Nodup.length_le_of_subset (l₂ := (List.range 64).map fun u : Nat => (u : Int)) h1 fun x hx => by
      have := hrg x (h11.perm.subset (List.mem_append_right _ hx))
      exact List.mem_map.2 ⟨x.toNat, List.mem_range.2 (by omega), by omega⟩
     rw [List.length_map, List.length_range] at h2
     exact h2
    ·exact Nat.le_trans h14 (by omega)
    ·exact Nat.le_trans (Nat.le_of_eq (congrArg List.length h12)) hl
 ·exact ⟨Nat.zero_le _, Nat.zero_le _, Nat.zero_le _⟩
/-- a row of a call's own among blocks of the same places and sizes -/
theorem OwnSl.shp {e : TypeId} {sz : Nat} {a : Option Addr} {n c : Nat} {xs : List Value} {Bs A B' : List Blk} (h : OwnSl e sz a n c xs Bs) (hb : ∀ x ∈ Bs, x ∈ A) (hs : Shp A B') (hn : 0 < n) : ∃ (k : Nat) (y : Blk), B'[k]? = some y ∧ a = some ⟨y.id, 0, none⟩ ∧ n * sz ≤ y.cs.length := by
 rcases h.2 with ⟨-, h0, -⟩ | ⟨g, cur, ha, rfl, h1, -, h2, -⟩
 ·omega
 ·obtain ⟨k, hk⟩ := List.getElem?_of_mem (hb _ (List.mem_singleton.2 rfl))
  have := congrArg (fun l => l[k]?) hs
  simp only [List.getElem?_map, hk, Option.map_some] at this
  cases hy : B'[k]? with
  | none => rw [hy] at this; cases this
  | some y =>
   rw [hy] at this
   simp only [Option.map_some, Option.some.injEq, Prod.mk.injEq] at this
   refine ⟨k, y, hy, by rw [this.1]; exact ha, ?_⟩
   rw [this.2.1, h2]
   exact Nat.mul_le_mul_right sz h1
set_option maxRecDepth 10000 in
set_option maxHeartbeats 2000000 in
/-- headend/headendlaw08.TraceFinds -/
theorem g_TraceFinds (b : Bo) (t : Sl) (ra : Option Addr) (rn rc : Nat) (l : List (Int × Int)) (noise : Int) : GivesR Tryz.prog 4 [.agg (boC b t).toArray, .slice ra rn rc, .int .i64 noise].toArray (fun w => RdI w t b.l ∧ RdB w ⟨ra, rn, rc⟩ l) (.bool true) := by
 refine givesR_of Tryz.func4 rfl (bs := [.agg (boC b t).toArray, .slice ra rn rc, .int .i64 noise, undef, undef, undef, undef, undef, undef, undef, undef, undef, undef, undef, undef, undef, undef, undef, undef, undef, undef, undef, undef, undef, undef, undef, undef, undef, undef, undef, undef, undef, undef, undef, undef, undef, undef, undef, undef, undef, undef, undef, undef, undef, undef, undef, undef, undef, undef, undef, undef, undef, undef, undef, undef, undef, undef, undef, undef, undef, undef, undef, undef, undef, undef, undef, undef, undef, undef, undef, undef, undef, undef, undef, undef, undef, undef, undef, undef, undef, undef, undef, undef, undef, undef, undef, undef, undef, undef, undef, undef, undef, undef, undef, undef]) rfl ?_
 intro w hP hW
 have hn := hP.1.len
 have hrn : rn = l.length := hP.2.len
 refine c_seq (c_reg ?_)
 refine xB hW ?_
 intro g1 W hW
 refine bB ?_
 refine l_end (n_then (c_seq (c_seq (c_reg ?_))))
 refine l_val (r_fieldAddr 6 Tryz.underlying31 rfl tyC27.size rfl rfl rfl) rfl rfl ?_
 refine dC hW 0 tyC27 ?_
 refine l_val (r_lenSlice Tryz.underlying27 rfl rfl) rfl rfl ?_
 refine l_val (r_gtrN (n := 100) rfl rfl rfl rfl) rfl rfl ?_
 refine l_split ?_ ?_
 ·intro hc1
  replace hc1 := of_decide_eq_true hc1
  refine aB ?_
  refine lN ?_
  refine lN ?_
  refine lN ?_
  refine kB ?_
  refine l_end (n_then ?_)
  refine c_true rfl ?_
  refine c_seq (c_reg ?_)
  refine bB ?_
  refine l_end (n_then (c_ret (r_then ?_)))
  refine ret_tmp (v := .bool true) rfl ?_ ⟨rfl, hW.below⟩
  rfl
 ·intro hc1
  replace hc1 := of_decide_eq_false hc1
  refine aB ?_
  refine l_valG (r_move (v := .slice _ _ _) rfl rfl) (by kernel_rfl) rfl ?_
  refine l_valG (r_lenSlice Tryz.underlying33 rfl rfl) (by kernel_rfl) rfl ?_
  refine l_valG (r_gtrN (n := 100) rfl rfl rfl rfl) (by kernel_rfl) rfl ?_
  refine l_split ?_ ?_
  ·intro hc2
   replace hc2 := of_decide_eq_true hc2
   refine kB ?_
   refine l_end (n_then ?_)
   refine c_true rfl ?_
   refine c_seq (c_reg ?_)
   refine bB ?_
   refine l_end (n_then (c_ret (r_then ?_)))
   refine ret_tmp (v := .bool true) rfl ?_ ⟨rfl, hW.below⟩
   rfl
  ·intro hc2
   replace hc2 := of_decide_eq_false hc2
   have hl : b.l.length ≤ 100 := by omega
   have hq : l.length ≤ 100 := by omega
   obtain ⟨hf1, hf2, hf3⟩ := traceT_fit (l := l) (noise := noise) hl
   obtain ⟨R, hR⟩ : ∃ R, R = (traceT b l noise) := ⟨_, rfl⟩
   rw [← hR] at hf1 hf2 hf3
   refine kB ?_
   refine l_end (n_then ?_)
   refine c_false rfl ?_
   refine c_skip (n_then (c_seq (c_reg ?_)))
   refine dA hW 0 tyA31 ?_
   refine l_callX hW (g_TwinBox b t hl) en23 (hP.1.past hW.below) rfl rfl rfl rfl ?_
   rintro _ BT W ⟨sT, rfl, nT⟩ hW
   refine l_buildSliceF hW bsl33_0_ rfl rfl rfl rfl ?_
   intro ge W hW
   refine aS ?_
   refine l_twinB tyE33 hW (s := ⟨ra, rn, rc⟩) (hP.2.past hW.below) (by unfold maxLen; omega) (by omega) rfl rfl rfl rfl rfl ?_
   intro a0 c0 B0 W hO0 hW
   refine l_alloc hW tyZ31 rfl rfl rfl ?_
   intro g2 W hW
   refine sA hW 0 tyA31 ?_
   intro W hW
   refine bS ?_
   refine l_end (n_then (c_seq (c_reg ?_)))
   refine dA hW 0 tyA31 ?_
   refine aS ?_
   refine aI ?_
   refine l_callX hW (g_Trace b sT a0 l.length c0 l noise hl hq) en18 ⟨nT.rep.at (show Cl _ (([_, _] ++ BT) ++ B0) _ from hW) ((List.sublist_append_right _ BT).trans (List.sublist_append_left _ B0)), hO0.repB.at (show Cl _ (([_, _] ++ BT) ++ B0) _ from hW) (List.sublist_append_right _ B0)⟩ rfl rfl rfl rfl ?_
   rintro _ _ W ⟨_, _, rfl, n1, la1, lc1, s1, BN1, BL1, BB1, rfl, rfl, rfl, h11, h21, h31⟩ hW
   rw [← hR] at h11 h21 h31 ⊢
   refine l_val (r_move (v := .tuple _) rfl rfl) rfl rfl ?_
   refine l_val (r_extract (v := .agg _) rfl rfl rfl) rfl rfl ?_
   refine l_val (r_extract (v := .agg _) rfl rfl rfl) rfl rfl ?_
   refine l_val (r_extract (v := .int _ _) rfl rfl rfl) rfl rfl ?_
   refine l_alloc hW tyZ38 rfl rfl rfl ?_
   intro g3 W hW
   refine l_alloc hW tyZ31 rfl rfl rfl ?_
   intro g4 W hW
   refine sA hW 1 tyA38 ?_
   intro W hW
   refine sA hW 0 tyA31 ?_
   intro W hW
   refine bI ?_
   refine l_end (n_then (c_seq (c_reg ?_)))
   refine dA hW 3 tyA31 ?_
   refine aS ?_
   refine aI ?_
   refine l_callX hW (g_rTrace b t ra rn rc l noise hl hq) en24 ⟨hP.1.past hW.below, hP.2.past hW.below⟩ rfl rfl rfl rfl ?_
   rintro _ _ W ⟨_, _, rfl, n2, la2, lc2, s2, BN2, BL2, BB2, rfl, rfl, rfl, h12, h22, h32⟩ hW
   rw [← hR] at h12 h22 h32 ⊢
   refine l_val (r_move (v := .tuple _) rfl rfl) rfl rfl ?_
   refine l_val (r_extract (v := .agg _) rfl rfl rfl) rfl rfl ?_
   refine l_val (r_extract (v := .agg _) rfl rfl rfl) rfl rfl ?_
   refine l_val (r_extract (v := .int _ _) rfl rfl rfl) rfl rfl ?_
   refine l_alloc hW tyZ38 rfl rfl rfl ?_
   intro g5 W hW
   refine l_alloc hW tyZ31 rfl rfl rfl ?_
   intro g6 W hW
   refine sA hW 1 tyA38 ?_
   intro W hW
   refine sA hW 0 tyA31 ?_
   intro W hW
   refine bI ?_
   refine l_end (n_then (c_seq (c_reg ?_)))
   refine dA hW 3 tyA38 ?_
   refine dA hW 1 tyA38 ?_
   refine l_callR hW (g_SameFinding n1 n2 la1 la2 R.1.l.length lc1 R.1.l.length lc2 R.1.nm R.1.l R.1.a R.2 (by omega) (by omega)) en25 ⟨⟨h11.rep.at (show Cl _ ([_, _, _, _, _, _] ++ (((BT ++ B0) ++ ((BN1 ++ BL1) ++ BB1)) ++ ((BN2 ++ BL2) ++ BB2))) _ from hW) (((List.sublist_append_left BN1 BL1).trans (List.sublist_append_left _ BB1)).trans ((List.sublist_append_right (BT ++ B0) ((BN1 ++ BL1) ++ BB1)).trans ((List.sublist_append_left _ ((BN2 ++ BL2) ++ BB2)).trans (List.sublist_append_right [_, _, _, _, _, _] _)))), h12.rep.at (show Cl _ ([_, _, _, _, _, _] ++ (((BT ++ B0) ++ ((BN1 ++ BL1) ++ BB1)) ++ ((BN2 ++ BL2) ++ BB2))) _ from hW) (((List.sublist_append_left BN2 BL2).trans (List.sublist_append_left _ BB2)).trans ((List.sublist_append_right _ ((BN2 ++ BL2) ++ BB2)).trans (List.sublist_append_right [_, _, _, _, _, _] _)))⟩, h21.repB.at (show Cl _ ([_, _, _, _, _, _] ++ (((BT ++ B0) ++ ((BN1 ++ BL1) ++ BB1)) ++ ((BN2 ++ BL2) ++ BB2))) _ from hW) (((List.sublist_append_right BN1 BL1).trans (List.sublist_append_left _ BB1)).trans ((List.sublist_append_right (BT ++ B0) ((BN1 ++ BL1) ++ BB1)).trans ((List.sublist_append_left _ ((BN2 ++ BL2) ++ BB2)).trans (List.sublist_append_right [_, _, _, _, _, _] _)))), h22.repB.at (show Cl _ ([_, _, _, _, _, _] ++ (((BT ++ B0) ++ ((BN1 ++ BL1) ++ BB1)) ++ ((BN2 ++ BL2) ++ BB2))) _ from hW) (((List.sublist_append_right BN2 BL2).trans (List.sublist_append_left _ BB2)).trans ((List.sublist_append_right _ ((BN2 ++ BL2) ++ BB2)).trans (List.sublist_append_right [_, _, _, _, _, _] _)))⟩ rfl rfl rfl rfl ?_
   intro W hW
   refine aB ?_
   refine l_loadAG hW 2 tyA31 (by kernel_rfl) rfl rfl rfl rfl (by first | rfl | exact kc_len _ | exact kcf_len _ | exact boC_len _ _ | (simp; done)) ?_
   refine l_loadAG hW 0 tyA31 (by kernel_rfl) rfl rfl rfl rfl (by first | rfl | exact kc_len _ | exact kcf_len _ | exact boC_len _ _ | (simp; done)) ?_
   refine l_callRG hW (g_SameBox R.1.b s1 s2 hf3) en26 ⟨h31.rep.at (show Cl _ ([_, _, _, _, _, _] ++ (((BT ++ B0) ++ ((BN1 ++ BL1) ++ BB1)) ++ ((BN2 ++ BL2) ++ BB2))) _ from hW) ((List.sublist_append_right _ BB1).trans ((List.sublist_append_right (BT ++ B0) ((BN1 ++ BL1) ++ BB1)).trans ((List.sublist_append_left _ ((BN2 ++ BL2) ++ BB2)).trans (List.sublist_append_right [_, _, _, _, _, _] _)))), h32.rep.at (show Cl _ ([_, _, _, _, _, _] ++ (((BT ++ B0) ++ ((BN1 ++ BL1) ++ BB1)) ++ ((BN2 ++ BL2) ++ BB2))) _ from hW) ((List.sublist_append_right _ BB2).trans ((List.sublist_append_right _ ((BN2 ++ BL2) ++ BB2)).trans (List.sublist_append_right [_, _, _, _, _, _] _)))⟩ (by kernel_rfl) rfl rfl rfl ?_
   intro W hW
   refine kB ?_
   refine aB ?_
   refine gI ?_
   refine gI ?_
   refine l_valG (r_eql (b := true) rfl rfl rfl (decide_eq_true rfl)) (by kernel_rfl) rfl ?_
   refine kB ?_
   refine bB ?_
   refine l_end ?_
   have hsn := h31.n
   replace hW := Cl.sub (L' := [_, _, _, _, _, _] ++ ((BT ++ B0) ++ ((BN1 ++ BL1) ++ BB1))) (show Cl _ ([_, _, _, _, _, _] ++ (((BT ++ B0) ++ ((BN1 ++ BL1) ++ BB1)) ++ ((BN2 ++ BL2) ++ BB2))) _ from hW) ((List.sublist_append_left ((BT ++ B0) ++ ((BN1 ++ BL1) ++ BB1)) ((BN2 ++ BL2) ++ BB2)).append_left _)
   refine n_then (c_seq (c_seq (c_reg ?_)))
   refine l_val (r_fieldAddr 1 Tryz.underlying38 rfl tyC33.size rfl rfl rfl) rfl rfl ?_
   refine dC hW 3 tyC33 ?_
   refine l_val (r_lenSlice Tryz.underlying33 rfl rfl) rfl rfl ?_
   refine aI ?_
   refine l_end (n_then (c_block ?_))
   refine c_loop (fun (z : Nat × List Blk) (j : Nat → Value) => [.agg (boC b t).toArray, .slice ra rn rc, .int .i64 noise, .pointer (some ⟨g1, 0, none⟩), j 4, j 5, .bool false, .pointer (some ⟨g2, 0, none⟩), .slice a0 l.length c0, .pointer (some ⟨g3, 0, none⟩), .pointer (some ⟨g4, 0, none⟩), .int .i64 (traceE b l noise), .pointer (some ⟨g5, 0, none⟩), .pointer (some ⟨g6, 0, none⟩), .int .i64 (traceE b l noise), .bool true, j 16, j 17, .pointer (some ⟨g1, 6, none⟩), .slice t.a t.n t.c, j 20, .bool false, .bool false, .slice ra rn rc, j 24, .bool false, .bool false, .agg ((boC b t)).toArray, .agg (boC b sT).toArray, .slice (some ⟨ge, 0, none⟩) 0 0, .slice ra rn rc, .slice a0 l.length c0, .tuple #[.agg [.slice n1.a n1.n n1.c, .slice la1 R.1.l.length lc1, .int .i64 (R.1.a : Int), .int .u8 (R.2 : Int)].toArray, .agg (boC R.1.b s1).toArray, .int .i64 (traceE b l noise)], .agg (boC b sT).toArray, .slice a0 l.length c0, .int .i64 noise, .tuple #[.agg [.slice n1.a n1.n n1.c, .slice la1 R.1.l.length lc1, .int .i64 (R.1.a : Int), .int .u8 (R.2 : Int)].toArray, .agg (boC R.1.b s1).toArray, .int .i64 (traceE b l noise)], .agg [.slice n1.a n1.n n1.c, .slice la1 R.1.l.length lc1, .int .i64 (R.1.a : Int), .int .u8 (R.2 : Int)].toArray, .agg (boC R.1.b s1).toArray, .int .i64 (traceE b l noise), .tuple #[.agg [.slice n2.a n2.n n2.c, .slice la2 R.1.l.length lc2, .int .i64 (R.1.a : Int), .int .u8 (R.2 : Int)].toArray, .agg (boC R.1.b s2).toArray, .int .i64 (traceE b l noise)], .agg ((boC b t)).toArray, .slice ra rn rc, .int .i64 noise, .tuple #[.agg [.slice n2.a n2.n n2.c, .slice la2 R.1.l.length lc2, .int .i64 (R.1.a : Int), .int .u8 (R.2 : Int)].toArray, .agg (boC R.1.b s2).toArray, .int .i64 (traceE b l noise)], .agg [.slice n2.a n2.n n2.c, .slice la2 R.1.l.length lc2, .int .i64 (R.1.a : Int), .int .u8 (R.2 : Int)].toArray, .agg (boC R.1.b s2).toArray, .int .i64 (traceE b l noise), .agg ([.slice n1.a n1.n n1.c, .slice la1 R.1.l.length lc1, .int .i64 (R.1.a : Int), .int .u8 (R.2 : Int)]).toArray, .agg ([.slice n2.a n2.n n2.c, .slice la2 R.1.l.length lc2, .int .i64 (R.1.a : Int), .int .u8 (R.2 : Int)]).toArray, .bool true, .bool true, .agg (boC R.1.b s1).toArray, .agg (boC R.1.b s2).toArray, .bool true, .bool true, .bool true, .int .i64 (traceE b l noise), .int .i64 (traceE b l noise), .bool true, .bool true, .pointer (some ⟨g3, 1, none⟩), .slice la1 R.1.l.length lc1, .int .i64 (R.1.l.length : Int), .int .i64 (z.1 : Int), j 65, j 66, j 67, j 68, j 69, j 70, j 71, j 72, j 73, j 74, j 75, j 76, j 77, j 78, j 79, j 80, j 81, j 82, j 83, j 84, j 85, j 86, j 87, j 88, j 89, j 90, j 91, j 92, j 93, j 94]) (fun (z : Nat × List Blk) => [⟨g6, boC R.1.b s2, 31⟩, ⟨g5, [.slice n2.a n2.n n2.c, .slice la2 R.1.l.length lc2, .int .i64 (R.1.a : Int), .int .u8 (R.2 : Int)], 38⟩, ⟨g4, boC R.1.b s1, 31⟩, ⟨g3, [.slice n1.a n1.n n1.c, .slice la1 R.1.l.length lc1, .int .i64 (R.1.a : Int), .int .u8 (R.2 : Int)], 38⟩, ⟨g2, boC b sT, 31⟩, ⟨g1, (boC b t), 31⟩] ++ ((BT ++ B0) ++ z.2)) (fun (z : Nat × List Blk) => z.1 ≤ R.1.l.length ∧ Shp ((BN1 ++ BL1) ++ BB1) z.2) (fun (z : Nat × List Blk) => R.1.l.length - z.1) (0, ((BN1 ++ BL1) ++ BB1)) (by kernel_rfl) hW ⟨Nat.zero_le _, Shp.refl _⟩ ?_
   intro z j W hx hW
   obtain ⟨n, B2⟩ := z
   obtain ⟨hz, hsh2⟩ := hx
   simp only at hz hsh2
   refine c_seq (c_reg ?_)
   refine l_val (r_lssN rfl rfl rfl rfl) rfl rfl ?_
   refine l_split ?_ ?_
   ·intro hc3
    replace hc3 := of_decide_eq_true hc3
    obtain ⟨k, y, hk, ha, hlk⟩ := h21.shp (fun x hx => List.mem_append_left _ (List.mem_append_right _ hx)) hsh2 (by omega)
    refine l_end (n_then (c_seq ?_))
    refine c_true rfl ?_
    refine c_skip (n_then (c_seq (c_block (c_seq (c_reg ?_)))))
    refine aI ?_
    refine bI ?_
    refine l_end (n_then (c_reg ?_))
    refine l_val (r_fieldAddr 1 Tryz.underlying38 rfl tyC33.size rfl rfl rfl) rfl rfl ?_
    refine dC hW 3 tyC33 ?_
    refine aI ?_
    refine l_val (r_indexAddrSlB (n := n) Tryz.underlying33 tyA64.size rfl (congrArg (fun a => Value.slice a R.1.l.length lc1) ha) rfl (by omega)) rfl rfl ?_
    refine l_val (r_fieldAddr _ Tryz.underlying64 rfl tyC3.size rfl rfl rfl) rfl rfl ?_
    refine l_storeIn (L := [_, _, _, _, _, _] ++ (BT ++ B0)) (B := B2) hW tyC3 hk rfl rfl rfl rfl rfl (by show 0 + n * 2 + 0 < _; omega) rfl ?_
    intro W hW
    refine l_end (n_block (n_then (c_reg ?_)))
    refine l_val (r_addN (n := 1) rfl rfl rfl (by omega)) rfl rfl ?_
    refine aI ?_
    refine l_end (n_then ?_)
    exact loop_next (n + 1, _) (by kernel_rfl) hW ⟨by simp only; omega, hsh2.set hk (by simp)⟩ (by simp only; omega)
   ·intro hc3
    replace hc3 := of_decide_eq_false hc3
    refine l_end (n_then (c_seq ?_))
    refine c_false rfl ?_
    refine c_exit (x_then (x_then ?_))
    refine x_hit ?_
    refine n_then (c_seq (c_seq (c_reg ?_)))
    refine l_val (r_fieldAddr 6 Tryz.underlying31 rfl tyC27.size rfl rfl rfl) rfl rfl ?_
    refine dC hW 2 tyC27 ?_
    refine l_val (r_lenSlice Tryz.underlying27 rfl rfl) rfl rfl ?_
    refine aI ?_
    refine l_end (n_then (c_block ?_))
    refine c_loop (fun (z : Nat × List Blk) (j : Nat → Value) => [.agg (boC b t).toArray, .slice ra rn rc, .int .i64 noise, .pointer (some ⟨g1, 0, none⟩), j 4, j 5, .bool false, .pointer (some ⟨g2, 0, none⟩), .slice a0 l.length c0, .pointer (some ⟨g3, 0, none⟩), .pointer (some ⟨g4, 0, none⟩), .int .i64 (traceE b l noise), .pointer (some ⟨g5, 0, none⟩), .pointer (some ⟨g6, 0, none⟩), .int .i64 (traceE b l noise), .bool true, j 16, j 17, .pointer (some ⟨g1, 6, none⟩), j 19, j 20, .bool false, .bool false, .slice ra rn rc, j 24, .bool false, .bool false, .agg ((boC b t)).toArray, .agg (boC b sT).toArray, .slice (some ⟨ge, 0, none⟩) 0 0, .slice ra rn rc, .slice a0 l.length c0, j 32, .agg (boC b sT).toArray, .slice a0 l.length c0, .int .i64 noise, j 36, j 37, .agg (boC R.1.b s1).toArray, .int .i64 (traceE b l noise), j 40, .agg ((boC b t)).toArray, .slice ra rn rc, .int .i64 noise, j 44, j 45, .agg (boC R.1.b s2).toArray, .int .i64 (traceE b l noise), j 48, j 49, .bool true, .bool true, .agg (boC R.1.b s1).toArray, .agg (boC R.1.b s2).toArray, .bool true, .bool true, .bool true, .int .i64 (traceE b l noise), .int .i64 (traceE b l noise), .bool true, .bool true, .pointer (some ⟨g3, 1, none⟩), .slice la1 R.1.l.length lc1, .int .i64 (R.1.l.length : Int), j 64, .bool false, j 66, j 67, j 68, j 69, j 70, j 71, j 72, .pointer (some ⟨g4, 6, none⟩), j 74, .int .i64 (s1.n : Int), .int .i64 (z.1 : Int), j 77, j 78, j 79, j 80, j 81, j 82, j 83, j 84, j 85, j 86, j 87, j 88, j 89, j 90, j 91, j 92, j 93, j 94]) (fun (z : Nat × List Blk) => [⟨g6, boC R.1.b s2, 31⟩, ⟨g5, [.slice n2.a n2.n n2.c, .slice la2 R.1.l.length lc2, .int .i64 (R.1.a : Int), .int .u8 (R.2 : Int)], 38⟩, ⟨g4, boC R.1.b s1, 31⟩, ⟨g3, [.slice n1.a n1.n n1.c, .slice la1 R.1.l.length lc1, .int .i64 (R.1.a : Int), .int .u8 (R.2 : Int)], 38⟩, ⟨g2, boC b sT, 31⟩, ⟨g1, (boC b t), 31⟩] ++ ((BT ++ B0) ++ z.2)) (fun (z : Nat × List Blk) => z.1 ≤ s1.n ∧ Shp ((BN1 ++ BL1) ++ BB1) z.2) (fun (z : Nat × List Blk) => s1.n - z.1) (0, B2) (by kernel_rfl) hW ⟨Nat.zero_le _, hsh2⟩ ?_
    intro z j W hx hW
    obtain ⟨n, B2⟩ := z
    obtain ⟨hz, hsh2⟩ := hx
    simp only at hz hsh2
    refine c_seq (c_reg ?_)
    refine l_val (r_lssN rfl rfl rfl rfl) rfl rfl ?_
    refine l_split ?_ ?_
    ·intro hc4
     replace hc4 := of_decide_eq_true hc4
     obtain ⟨k, y, o0, hk, ha, hlk⟩ := (h31.mem.sub fun x hx => List.mem_append_right (BN1 ++ BL1) hx).shp hsh2 (by omega)
     refine l_end (n_then (c_seq ?_))
     refine c_true rfl ?_
     refine c_skip (n_then (c_seq (c_block (c_seq (c_reg ?_)))))
     refine aI ?_
     refine bI ?_
     refine l_end (n_then (c_reg ?_))
     refine l_val (r_fieldAddr 6 Tryz.underlying31 rfl tyC27.size rfl rfl rfl) rfl rfl ?_
     refine dC hW 2 tyC27 ?_
     refine aI ?_
     refine l_val (r_indexAddrSl2 (n := n) Tryz.underlying27 tyC3.size rfl (congrArg (fun a => Value.slice a s1.n s1.c) ha) rfl (by omega)) rfl rfl ?_
     refine l_storeIn (L := [_, _, _, _, _, _] ++ (BT ++ B0)) (B := B2) hW tyC3 hk rfl rfl rfl rfl rfl (by omega) rfl ?_
     intro W hW
     refine l_end (n_block (n_then (c_reg ?_)))
     refine l_val (r_addN (n := 1) rfl rfl rfl (by omega)) rfl rfl ?_
     refine aI ?_
     refine l_end (n_then ?_)
     exact loop_next (n + 1, _) (by kernel_rfl) hW ⟨by simp only; omega, hsh2.set hk (by simp)⟩ (by simp only; omega)
    ·intro hc4
     replace hc4 := of_decide_eq_false hc4
     refine l_end (n_then (c_seq ?_))
     refine c_false rfl ?_
     refine c_exit (x_then (x_then ?_))
     refine x_hit ?_
     refine n_then (c_seq (c_reg ?_))
     refine aB ?_
     refine aB ?_
     refine l_loadAG hW 4 tyA31 (by kernel_rfl) rfl rfl rfl rfl (by first | rfl | exact kc_len _ | exact kcf_len _ | exact boC_len _ _ | (simp; done)) ?_
     refine l_loadAG hW 5 tyA31 (by kernel_rfl) rfl rfl rfl rfl (by first | rfl | exact kc_len _ | exact kcf_len _ | exact boC_len _ _ | (simp; done)) ?_
     refine l_callRG hW (g_SameBox b sT t hl) en26 ⟨nT.rep.at hW (((List.sublist_append_left BT B0).trans (List.sublist_append_left _ B2)).trans (List.sublist_append_right [_, _, _, _, _, _] _)), hP.1.past hW.below⟩ (by kernel_rfl) rfl rfl rfl ?_
     intro W hW
     refine kB ?_
     refine aB ?_
     refine l_valG (r_move (v := .slice _ _ _) rfl rfl) (by kernel_rfl) rfl ?_
     refine l_valG (r_move (v := .slice _ _ _) rfl rfl) (by kernel_rfl) rfl ?_
     refine l_callRG hW (g_rSameSubsets a0 l.length c0 l ra rn rc l (by omega)) en27 ⟨hO0.repB.at hW (((List.sublist_append_right BT B0).trans (List.sublist_append_left _ B2)).trans (List.sublist_append_right [_, _, _, _, _, _] _)), hP.2.past hW.below⟩ (by kernel_rfl) rfl rfl rfl ?_
     intro W hW
     rw [decide_eq_true rfl]
     refine kB ?_
     refine bB ?_
     refine l_end (n_then (c_ret ?_))
     refine ret_tmp (v := .bool true) rfl ?_ ⟨rfl, hW.below⟩
     rfl

end Go.Proofs.YtoegpalacppllaaGreat

/- For every box of at most 100 receivers, every list of at most 100 subsets and every noise: the finding of a trace and the box after it, or the error, by the program are those of the reference, the finding is in new memory, and the box and the partition are not changed; no conditions. -/
namespace Go.Proofs.YtoegpalacppllaaGreat
open Go.RowKit Go.ChangeShapes Go.WideShapes Pl Tr Hn

theorem traceFinds_calls (H : Type) (enc : TypeId × Value → H) (W : World) (base : Nat) (args : Array Value) (ds : List (DataW H)) (ps : List MemPlace) (h : Opened enc Tryz.prog W Tryz.f4 base args ds ps) :
    Calls Tryz.prog 4 args W fun e w' => e = .returned (.bool true) ∧ Below W.heap.size W w' := by
  have r0 := h.args (ts := [31, 33, 3]) (by kernel_rfl)
  generalize hl : args.toList = l0 at r0
  obtain ⟨_, l1, rfl, a0, r1⟩ := r0.cons
  obtain ⟨b, b_s, rfl, b_rd⟩ := a0.box tyBo31
  obtain ⟨_, l2, rfl, a1, r2⟩ := r1.cons
  obtain ⟨l_a, l_n, l_c, l, rfl, l_rd⟩ := a1.subsets Tryz.underlying33 tyQ64
  obtain ⟨_, l3, rfl, a2, r3⟩ := r2.cons
  obtain ⟨noise, rfl, noise_lo, noise_hi⟩ := a2.int Tryz.underlying3
  obtain rfl := r3.nil
  rw [arr_of hl]
  exact g_TraceFinds b b_s l_a l_n l_c l noise W ⟨b_rd, l_rd⟩
set_option maxRecDepth 100000 in
theorem traceFinds_closed : joinedFacts Tryz.pinned.checked.prog 4 Tryz.f4 Rows.traceFindsSpec Rows.traceFindsRow = true := by kernel_rfl
set_option maxRecDepth 100000 in
theorem traceFinds_holds : Rows.TraceFindsSaid :=
  OpenClaim.holds_of_wide 4 Tryz.f4 rfl rfl rfl rfl rfl rfl rfl ⟨rfl, rfl, rfl, rfl, rfl⟩ rfl rfl rfl rfl rfl (by kernel_rfl) Tryz.func4 traceFinds_closed
    (of_decide_eq_true (by kernel_rfl)) (by unfold Func.isWrapper; first | (rw [if_pos (by decide +kernel)]; kernel_rfl) | (rw [if_neg (by decide +kernel)]; exact ⟨rfl, rfl⟩))
    (fun os started H enc _ => law_lifted (C := Tryz.checked) (s := Rows.traceFindsSpec) (conds := Rows.traceFindsRow.domain) 4 (by kernel_rfl) (by kernel_rfl) Tryz.func4 (by kernel_rfl) (by kernel_rfl) rfl
      (fun H ds hd => match ds, hd with | [_, _, _], _ => rfl) (by kernel_rfl) Tryz.underlying4 traceFinds_calls os started H enc
      (ChangeSpec.witness6 (enc := enc) (C := Tryz.checked) false ⟨#[], #[.agg #[.int .u8 0, .int .i64 0, .int .i64 0, .int .u64 0, .int .u64 0, .int .u64 0, .slice none 0 0, .int .u8 0, .int .i64 0, .int .i64 0, .int .u8 0, .int .u8 0, .int .u8 0, .int .u8 0, .int .u8 0, .int .u8 0, .int .u8 0, .int .u8 0, .int .u8 0, .int .u8 0, .int .u8 0, .int .u8 0, .int .u8 0, .int .u8 0, .int .u8 0, .int .u8 0, .int .i64 0, .int .i64 0], .slice none 0 0, .int .i64 0], []⟩ 8 (by kernel_rfl) (by kernel_rfl) (by kernel_rfl) (by kernel_rfl)))
#print axioms traceFinds_holds
end Go.Proofs.YtoegpalacppllaaGreat

