/- For every hunt that is not great, every number of users and every variant: a new hunt, whether the hunt is valid, its variants, and the hunt after hearing the variant by the program, or the errors, are those of the reference, and the hunt is not changed; no conditions. -/
import Derived.Test.YtoegpalacppllaaPkH3
import Derived.Test.YtoegpalacppllaaRows
/- What is heard, by the reference. -/
namespace Go.Proofs.Ytoegpalacppllaa
open Go.RowKit Pl
open Tr Hn
set_option maxRecDepth 10000 in
/-- headend/headendref08.Hear -/
theorem g_rHearN (h : Hu) (pa : Option Addr) (pn pc : Nat) (r q : Sl) (ss : List Sl) (n : Nat) (hsm : Small h) (hfit : pn * 48 ≤ 140737488351232) : GivesX Try.prog 24 [.agg [.int .i64 h.users, .slice pa pn pc, .slice r.a r.n r.c, .slice q.a q.n q.c, .int .i64 h.rounds].toArray, .int .i64 (n : Int)].toArray (fun w => RdHu w h ⟨pa, pn, pc⟩ r q ss) (fun v Bs => ∃ a, v = .tuple #[a, .int .i64 ((hear h (n : Int)).2 : Int)] ∧ huX (hear h (n : Int)).1 a Bs) := by
  refine givesX_of Try.func24 rfl (bs := [.agg [.int .i64 h.users, .slice pa pn pc, .slice r.a r.n r.c, .slice q.a q.n q.c, .int .i64 h.rounds].toArray, .int .i64 (n : Int), undef, undef, undef, undef, undef, undef, undef, undef, undef, undef, undef, undef, undef, undef, undef, undef, undef, undef, undef, undef, undef, undef, undef, undef, undef, undef, undef, undef, undef, undef, undef, undef, undef, undef, undef, undef, undef, undef, undef, undef, undef, undef, undef, undef, undef, undef, undef, undef, undef, undef, undef, undef, undef, undef, undef, undef, undef, undef, undef, undef, undef, undef, undef, undef, undef, undef, undef, undef, undef, undef, undef, undef, undef, undef, undef, undef, undef, undef, undef, undef, undef, undef, undef, undef, undef, undef, undef, undef, undef, undef, undef, undef, undef, undef, undef, undef, undef, undef]) rfl ?_
  intro w hP hW
  have hpn := hP.pn
  have hpl := hP.len
  simp only at hpn
  have hgl := hP.gl
  have hgs := hsm.sum
  have hone := hsm.one
  have hrl := hP.rest.len
  have hl1 := hone h.rest (by simp [groups])
  have hl2 := hone h.named (by simp [groups])
  refine c_seq ?_
  refine c_reg ?_
  refine l_box hW rfl rfl rfl rfl ?_
  intro g1 W hW
  refine l_alloc hW tyZ52 rfl rfl rfl ?_
  intro g2 W hW
  refine l_val (r_assign (v := .int _ _) rfl rfl) rfl rfl ?_
  refine l_end ?_
  refine n_then ?_
  refine c_seq ?_
  refine c_seq ?_
  refine c_reg ?_
  refine l_loadA hW 1 tyA52 rfl rfl rfl rfl rfl (by first | rfl | exact kc_len _ | exact kcf_len _ | (simp; done)) ?_
  refine l_callR hW (g_ValidHunt h pa pn pc r q ss hsm hfit) en46 (hP.past hW.below) rfl rfl rfl rfl ?_
  intro W hW
  refine l_split ?_ ?_
  · intro hc1
    refine l_val (r_not rfl rfl) rfl rfl ?_
    refine l_end ?_
    refine n_then ?_
    refine c_false rfl ?_
    refine c_skip ?_
    refine n_then ?_
    refine c_seq ?_
    refine c_seq ?_
    refine c_reg ?_
    refine l_val (r_move (v := .int _ _) rfl rfl) rfl rfl ?_
    refine l_val (r_lssN (n := 0) rfl rfl rfl rfl) rfl rfl ?_
    refine l_split ?_ ?_
    · intro hc2
      replace hc2 := of_decide_eq_true hc2
      refine l_val (r_move (v := .bool _) rfl rfl) rfl rfl ?_
      refine l_not (by kernel_rfl) rfl ?_
      refine l_not (by kernel_rfl) rfl ?_
      refine l_not (by kernel_rfl) rfl ?_
      refine l_not (by kernel_rfl) rfl ?_
      refine l_not (by kernel_rfl) rfl ?_
      refine l_not (by kernel_rfl) rfl ?_
      refine l_val (r_pick (v := .bool _) rfl rfl rfl) rfl rfl ?_
      refine l_val (r_move (v := .bool _) rfl rfl) rfl rfl ?_
      refine l_not (by kernel_rfl) rfl ?_
      refine l_not (by kernel_rfl) rfl ?_
      refine l_not (by kernel_rfl) rfl ?_
      refine l_not (by kernel_rfl) rfl ?_
      refine l_not (by kernel_rfl) rfl ?_
      refine l_not (by kernel_rfl) rfl ?_
      refine l_not (by kernel_rfl) rfl ?_
      refine l_not (by kernel_rfl) rfl ?_
      refine l_val (r_pick (v := .bool _) rfl rfl rfl) rfl rfl ?_
      refine l_end ?_
      refine n_then ?_
      refine c_true rfl ?_
      refine c_seq ?_
      refine c_reg ?_
      refine l_val (r_build (ps := []) (bld52_) rfl rfl) rfl rfl ?_
      refine l_storeA hW 0 tyA52 rfl rfl rfl rfl rfl rfl (by first | rfl | exact kc_len _ | exact kcf_len _ | (simp; done)) (by first | rfl | exact kc_len _ | exact kcf_len _ | (simp; done)) (by first | exact kc_one _ | exact kcf_one _ | (simp [Value.oneCell']; done)) ?_
      intro W hW
      refine l_val (r_assign (v := .int _ _) rfl rfl) rfl rfl ?_
      refine l_end ?_
      refine n_then ?_
      refine c_ret ?_
      refine r_then ?_
      refine ret_cell_tmp hW 0 tyA52 rfl rfl rfl (by first | rfl | exact kc_len _ | exact kcf_len _ | (simp; done)) rfl ?_
      have e := hear_80 (x := (n : Int)) hc1 (by omega)
      exact ⟨_, [], rfl, ⟨.agg (huC noHunt Sl.no Sl.no Sl.no).toArray, by rw [e]; rfl, by rw [e]; exact ⟨_, _, _, _, rfl, no_newHu⟩⟩, hW.sub (List.nil_sublist _)⟩
    · intro hc2
      replace hc2 := of_decide_eq_false hc2
      refine l_val (r_move (v := .bool _) rfl rfl) rfl rfl ?_
      refine l_valG (r_move (v := .int _ _) rfl rfl) (by kernel_rfl) rfl ?_
      refine l_valG (r_fieldAddr 1 Try.underlying52 rfl tyC50.size rfl rfl rfl) (by kernel_rfl) rfl ?_
      refine l_loadCG hW 1 tyC50 (by kernel_rfl) rfl rfl rfl rfl rfl ?_
      refine l_valG (r_lenSlice Try.underlying50 rfl rfl) (by kernel_rfl) rfl ?_
      refine l_valG (r_mulN (m := 2) rfl rfl rfl (by omega)) (by kernel_rfl) rfl ?_
      refine l_valG (r_gtrN rfl rfl rfl rfl) (by kernel_rfl) rfl ?_
      refine l_split ?_ ?_
      · intro hc3
        replace hc3 := of_decide_eq_true hc3
        refine l_val (r_pick (v := .bool _) rfl rfl rfl) rfl rfl ?_
        refine l_val (r_move (v := .bool _) rfl rfl) rfl rfl ?_
        refine l_not (by kernel_rfl) rfl ?_
        refine l_not (by kernel_rfl) rfl ?_
        refine l_not (by kernel_rfl) rfl ?_
        refine l_not (by kernel_rfl) rfl ?_
        refine l_not (by kernel_rfl) rfl ?_
        refine l_not (by kernel_rfl) rfl ?_
        refine l_not (by kernel_rfl) rfl ?_
        refine l_not (by kernel_rfl) rfl ?_
        refine l_val (r_pick (v := .bool _) rfl rfl rfl) rfl rfl ?_
        refine l_end ?_
        refine n_then ?_
        refine c_true rfl ?_
        refine c_seq ?_
        refine c_reg ?_
        refine l_val (r_build (ps := []) (bld52_) rfl rfl) rfl rfl ?_
        refine l_storeA hW 0 tyA52 rfl rfl rfl rfl rfl rfl (by first | rfl | exact kc_len _ | exact kcf_len _ | (simp; done)) (by first | rfl | exact kc_len _ | exact kcf_len _ | (simp; done)) (by first | exact kc_one _ | exact kcf_one _ | (simp [Value.oneCell']; done)) ?_
        intro W hW
        refine l_val (r_assign (v := .int _ _) rfl rfl) rfl rfl ?_
        refine l_end ?_
        refine n_then ?_
        refine c_ret ?_
        refine r_then ?_
        refine ret_cell_tmp hW 0 tyA52 rfl rfl rfl (by first | rfl | exact kc_len _ | exact kcf_len _ | (simp; done)) rfl ?_
        have e := hear_80 (x := (n : Int)) hc1 (by omega)
        exact ⟨_, [], rfl, ⟨.agg (huC noHunt Sl.no Sl.no Sl.no).toArray, by rw [e]; rfl, by rw [e]; exact ⟨_, _, _, _, rfl, no_newHu⟩⟩, hW.sub (List.nil_sublist _)⟩
      · intro hc3
        replace hc3 := of_decide_eq_false hc3
        refine l_val (r_pick (v := .bool _) rfl rfl rfl) rfl rfl ?_
        refine l_val (r_move (v := .bool _) rfl rfl) rfl rfl ?_
        refine l_valG (r_move (v := .int _ _) rfl rfl) (by kernel_rfl) rfl ?_
        refine l_valG (r_eqlN (n := 0) rfl rfl rfl rfl) (by kernel_rfl) rfl ?_
        refine l_split ?_ ?_
        · intro hc4
          replace hc4 := of_decide_eq_true hc4
          refine l_valG (r_move (v := .bool _) rfl rfl) (by kernel_rfl) rfl ?_
          refine l_valG (r_fieldAddr 2 Try.underlying52 rfl tyC35.size rfl rfl rfl) (by kernel_rfl) rfl ?_
          refine l_loadCG hW 1 tyC35 (by kernel_rfl) rfl rfl rfl rfl rfl ?_
          refine l_valG (r_lenSlice Try.underlying35 rfl rfl) (by kernel_rfl) rfl ?_
          refine l_valG (r_eqlN (n := 0) rfl rfl rfl rfl) (by kernel_rfl) rfl ?_
          refine l_split ?_ ?_
          · intro hc5
            replace hc5 := of_decide_eq_true hc5
            refine l_valG (r_pick (v := .bool _) rfl rfl rfl) (by kernel_rfl) rfl ?_
            refine l_val (r_pick (v := .bool _) rfl rfl rfl) rfl rfl ?_
            refine l_end ?_
            refine n_then ?_
            refine c_true rfl ?_
            refine c_seq ?_
            refine c_reg ?_
            refine l_val (r_build (ps := []) (bld52_) rfl rfl) rfl rfl ?_
            refine l_storeA hW 0 tyA52 rfl rfl rfl rfl rfl rfl (by first | rfl | exact kc_len _ | exact kcf_len _ | (simp; done)) (by first | rfl | exact kc_len _ | exact kcf_len _ | (simp; done)) (by first | exact kc_one _ | exact kcf_one _ | (simp [Value.oneCell']; done)) ?_
            intro W hW
            refine l_val (r_assign (v := .int _ _) rfl rfl) rfl rfl ?_
            refine l_end ?_
            refine n_then ?_
            refine c_ret ?_
            refine r_then ?_
            refine ret_cell_tmp hW 0 tyA52 rfl rfl rfl (by first | rfl | exact kc_len _ | exact kcf_len _ | (simp; done)) rfl ?_
            have e := hear_80 (x := (n : Int)) hc1 (by omega)
            exact ⟨_, [], rfl, ⟨.agg (huC noHunt Sl.no Sl.no Sl.no).toArray, by rw [e]; rfl, by rw [e]; exact ⟨_, _, _, _, rfl, no_newHu⟩⟩, hW.sub (List.nil_sublist _)⟩
          · intro hc5
            replace hc5 := of_decide_eq_false hc5
            refine l_valG (r_pick (v := .bool _) rfl rfl rfl) (by kernel_rfl) rfl ?_
            refine l_val (r_pick (v := .bool _) rfl rfl rfl) rfl rfl ?_
            refine l_end ?_
            refine n_then ?_
            refine c_false rfl ?_
            refine c_skip ?_
            refine n_then ?_
            refine c_seq ?_
            refine c_seq ?_
            refine c_reg ?_
            refine l_val (r_fieldAddr 4 Try.underlying52 rfl tyC3.size rfl rfl rfl) rfl rfl ?_
            refine l_loadC hW 1 tyC3 rfl rfl rfl rfl rfl rfl ?_
            refine l_val (r_eql rfl rfl rfl rfl) rfl rfl ?_
            refine l_split ?_ ?_
            · intro hc6
              replace hc6 := of_decide_eq_true hc6
              refine l_end ?_
              refine n_then ?_
              refine c_true rfl ?_
              refine c_seq ?_
              refine c_reg ?_
              refine l_val (r_build (ps := []) (bld52_) rfl rfl) rfl rfl ?_
              refine l_storeA hW 0 tyA52 rfl rfl rfl rfl rfl rfl (by first | rfl | exact kc_len _ | exact kcf_len _ | (simp; done)) (by first | rfl | exact kc_len _ | exact kcf_len _ | (simp; done)) (by first | exact kc_one _ | exact kcf_one _ | (simp [Value.oneCell']; done)) ?_
              intro W hW
              refine l_val (r_assign (v := .int _ _) rfl rfl) rfl rfl ?_
              refine l_end ?_
              refine n_then ?_
              refine c_ret ?_
              refine r_then ?_
              refine ret_cell_tmp hW 0 tyA52 rfl rfl rfl (by first | rfl | exact kc_len _ | exact kcf_len _ | (simp; done)) rfl ?_
              have e := hear_9 (x := (n : Int)) hc1 (by omega) (by omega)
              exact ⟨_, [], rfl, ⟨.agg (huC noHunt Sl.no Sl.no Sl.no).toArray, by rw [e]; rfl, by rw [e]; exact ⟨_, _, _, _, rfl, no_newHu⟩⟩, hW.sub (List.nil_sublist _)⟩
            · intro hc6
              replace hc6 := of_decide_eq_false hc6
              have hv := (valid_iff h).1 hc1
              have e := hear_0 (n := n) hc1 (by omega) (by omega)
              have hv1 := hv.u1
              have hv2 := hv.r1
              have hv3 := hv.r2
              have hv4 := hv.p
              refine l_end ?_
              refine n_then ?_
              refine c_false rfl ?_
              refine c_skip ?_
              refine n_then ?_
              refine c_seq ?_
              refine c_reg ?_
              refine l_loadA hW 1 tyA52 rfl rfl rfl rfl rfl (by first | rfl | exact kc_len _ | exact kcf_len _ | (simp; done)) ?_
              refine l_callX hW (g_TwinHunt h pa pn pc r q ss hsm hfit) en18 (hP.past hW.below) rfl rfl rfl rfl ?_
              rintro _ _ W ⟨⟨pb, pm, pd⟩, r1, q1, ss1, Rb, M, rfl, hO, rfl⟩ hW
              refine l_storeA hW 1 tyA52 rfl rfl rfl rfl rfl rfl (by first | rfl | exact kc_len _ | exact kcf_len _ | (simp; done)) (by first | rfl | exact kc_len _ | exact kcf_len _ | (simp; done)) (by first | exact kc_one _ | exact kcf_one _ | (simp [Value.oneCell']; done)) ?_
              intro W hW
              refine l_end ?_
              refine n_then ?_
              refine c_seq ?_
              refine c_reg ?_
              refine l_val (r_fieldAddr 4 Try.underlying52 rfl tyC3.size rfl rfl rfl) rfl rfl ?_
              refine l_loadC hW 1 tyC3 rfl rfl rfl rfl rfl rfl ?_
              refine l_val (r_addZ rfl rfl rfl (by omega)) rfl rfl ?_
              refine l_val (r_fieldAddr 4 Try.underlying52 rfl tyC3.size rfl rfl rfl) rfl rfl ?_
              refine l_storeC hW 1 tyC3 (v := .int _ _) rfl rfl rfl rfl rfl rfl (by first | rfl | omega | (simp; done) | (simp; omega)) rfl ?_
              intro W hW
              refine l_end ?_
              refine n_then ?_
              refine c_seq ?_
              refine c_seq ?_
              refine c_reg ?_
              refine l_val (r_move (v := .int _ _) rfl rfl) rfl rfl ?_
              refine l_val (r_gtrN (n := 0) rfl rfl rfl rfl) rfl rfl ?_
              refine l_split ?_ ?_
              · intro hc7
                replace hc7 := of_decide_eq_true hc7
                have hpm : pm = pn := by have a := hO.row.1; have b := hO.len; rw [List.length_map] at a; simp only at a; omega
                obtain ⟨gr, cur, ha, hRb, -, -, -⟩ := hO.row.row (by simp only; omega)
                simp only at ha
                subst ha
                subst hRb
                replace hW := hW.perm (List.Perm.append_left [_, _] List.perm_append_comm)
                refine l_end ?_
                refine n_then ?_
                refine c_true rfl ?_
                refine c_seq ?_
                refine c_reg ?_
                refine l_val (r_move (v := .int _ _) rfl rfl) rfl rfl ?_
                refine l_val (r_subN (n := 1) rfl rfl rfl (by omega) (by omega)) rfl rfl ?_
                refine l_val (r_quoN (n := 2) rfl rfl rfl (by omega) (by omega)) rfl rfl ?_
                refine l_val (r_assign (v := .int _ _) rfl rfl) rfl rfl ?_
                refine l_end ?_
                refine n_then ?_
                refine c_seq ?_
                refine c_seq ?_
                refine c_reg ?_
                refine l_val (r_move (v := .int _ _) rfl rfl) rfl rfl ?_
                refine l_val (r_remN (n := 2) rfl rfl rfl (by omega)) rfl rfl ?_
                refine l_val (r_eqlN (n := 1) rfl rfl rfl rfl) rfl rfl ?_
                refine l_split ?_ ?_
                · intro hc8
                  replace hc8 := of_decide_eq_true hc8
                  obtain ⟨s0, s1, e0, e1, k0, k1⟩ := hO.row.pair2 (i := (n - 1) / 2) (by simp only; omega)
                  obtain ⟨l0, f0, n0⟩ := hO.ps _ _ e0
                  obtain ⟨l1, f1, n1⟩ := hO.ps _ _ e1
                  have v0 := (hv.ps l0 (List.mem_of_getElem? f0)).2
                  have v1 := (hv.ps l1 (List.mem_of_getElem? f1)).2
                  have y0 := hone l0 (List.mem_of_getElem? (i := 2 * ((n - 1) / 2) + 2) f0)
                  have y1 := hone l1 (List.mem_of_getElem? (i := 2 * ((n - 1) / 2) + 3) f1)
                  have hh := heard_at (x := n) (by omega) rfl f0 f1 v0 v1
                  rw [if_pos (by omega), if_pos (by omega)] at hh
                  refine l_end ?_
                  refine n_then ?_
                  refine c_true rfl ?_
                  refine c_seq ?_
                  refine c_regM hW [] [.q, .q, .q, .q, .q, .q, .q, .q, .q, .q, .q, .q, .q, .q, .tail, .tail, .tail] [] [] [] [0, 0, 0, 4, 0, 28, 60, 124, 0, 256, 0, 1792, 3840, 7936, 16383, 32767, 65535] (by kernel_rfl) (by kernel_rfl) rfl (by kernel_rfl) ?_
                  refine y_loadA 1 tyA52 rfl rfl rfl rfl rfl (by first | rfl | exact kc_len _ | exact kcf_len _ | (simp; done)) (by decide) ?_
                  refine y_val (r_move (v := .int _ _) rfl rfl) rfl rfl ?_
                  refine y_val (r_fieldAddr 1 Try.underlying52 rfl tyC50.size rfl rfl rfl) rfl rfl ?_
                  refine y_loadC 1 tyC50 rfl rfl rfl rfl rfl rfl (by decide) ?_
                  refine y_val (r_move (v := .int _ _) rfl rfl) rfl rfl ?_
                  refine y_val (r_indexAddrSl (n := (n - 1) / 2) Try.underlying50 tyA99.size rfl rfl rfl (by first | omega | (simp only; omega))) rfl rfl ?_
                  refine y_val (r_fieldAddr _ Try.underlying99 rfl tyC35.size rfl rfl rfl) rfl rfl ?_
                  refine y_loadC 2 tyC35 (v := s0.v) (by kernel_rfl) rfl rfl rfl rfl k0 (by decide) ?_
                  refine y_val (r_fieldAddr 1 Try.underlying52 rfl tyC50.size rfl rfl rfl) rfl rfl ?_
                  refine y_loadC 1 tyC50 rfl rfl rfl rfl rfl rfl (by decide) ?_
                  refine y_val (r_move (v := .int _ _) rfl rfl) rfl rfl ?_
                  refine y_val (r_indexAddrSl (n := (n - 1) / 2) Try.underlying50 tyA99.size rfl rfl rfl (by first | omega | (simp only; omega))) rfl rfl ?_
                  refine y_val (r_fieldAddr _ Try.underlying99 rfl tyC35.size rfl rfl rfl) rfl rfl ?_
                  refine y_loadC 2 tyC35 (v := s1.v) (by kernel_rfl) rfl rfl rfl rfl k1 (by decide) ?_
                  refine y_tail ?_
                  intro W hW
                  refine l_callS (g_heard (oneUp h) pm pd gr cur r1 q1 ss1 M ((n - 1) / 2) s0.a s0.n s0.c l0 s1.a s1.n s1.c l1 ⟨hO.row, hO.len, hO.ps, hO.rest, hO.named⟩ (by omega) n0 n1 v0 (by omega) (show h.rest.length ≤ _ by omega) (show h.named.length ≤ _ by omega) (by omega) (by omega)) (hW.perm (List.perm_append_comm_assoc [_, _] [_] M)) en52 (List.sublist_append_right _ _) rfl rfl rfl rfl ?_
                  rintro _ _ W ⟨p2, r2, q2, ss2, Rb2, N2, rfl, hO2, rfl⟩ hW
                  replace hW := hW.perm List.perm_append_comm
                  refine l_storeA hW 0 tyA52 rfl rfl rfl rfl rfl rfl (by first | rfl | exact kc_len _ | exact kcf_len _ | (simp; done)) (by first | rfl | exact kc_len _ | exact kcf_len _ | (simp; done)) (by first | exact kc_one _ | exact kcf_one _ | (simp [Value.oneCell']; done)) ?_
                  intro W hW
                  refine l_val (r_assign (v := .int _ _) rfl rfl) rfl rfl ?_
                  refine l_end ?_
                  refine n_then ?_
                  refine c_ret ?_
                  refine r_then ?_
                  refine r_then ?_
                  refine ret_cell_tmp hW 0 tyA52 rfl rfl rfl (by first | rfl | exact kc_len _ | exact kcf_len _ | (simp; done)) rfl ?_
                  exact ⟨_, (N2 ++ M) ++ Rb2, rfl, ⟨_, by rw [e]; rfl, by rw [e, hh]; exact ⟨_, _, _, _, rfl, hO2.newHu (List.sublist_append_left _ _) (List.sublist_append_right _ _)⟩⟩, ((show Cl _ (M ++ (N2 ++ Rb2)) _ from hW.drop 2).perm List.perm_append_comm).perm permN⟩
                · intro hc8
                  replace hc8 := of_decide_eq_false hc8
                  obtain ⟨s0, s1, e0, e1, k0, k1⟩ := hO.row.pair2 (i := (n - 1) / 2) (by simp only; omega)
                  obtain ⟨l0, f0, n0⟩ := hO.ps _ _ e0
                  obtain ⟨l1, f1, n1⟩ := hO.ps _ _ e1
                  have v0 := (hv.ps l0 (List.mem_of_getElem? f0)).2
                  have v1 := (hv.ps l1 (List.mem_of_getElem? f1)).2
                  have y0 := hone l0 (List.mem_of_getElem? (i := 2 * ((n - 1) / 2) + 2) f0)
                  have y1 := hone l1 (List.mem_of_getElem? (i := 2 * ((n - 1) / 2) + 3) f1)
                  have hh := heard_at (x := n) (by omega) rfl f0 f1 v0 v1
                  rw [if_neg (by omega), if_neg (by omega)] at hh
                  refine l_end ?_
                  refine n_then ?_
                  refine c_false rfl ?_
                  refine c_skip ?_
                  refine n_then ?_
                  refine c_seq ?_
                  refine c_regM hW [] [.q, .q, .q, .q, .q, .q, .q, .q, .q, .q, .q, .q, .q, .q, .tail, .tail, .tail] [] [] [] [0, 0, 0, 4, 0, 28, 60, 124, 0, 256, 0, 1792, 3840, 7936, 16383, 32767, 65535] (by kernel_rfl) (by kernel_rfl) rfl (by kernel_rfl) ?_
                  refine y_loadA 1 tyA52 rfl rfl rfl rfl rfl (by first | rfl | exact kc_len _ | exact kcf_len _ | (simp; done)) (by decide) ?_
                  refine y_val (r_move (v := .int _ _) rfl rfl) rfl rfl ?_
                  refine y_val (r_fieldAddr 1 Try.underlying52 rfl tyC50.size rfl rfl rfl) rfl rfl ?_
                  refine y_loadC 1 tyC50 rfl rfl rfl rfl rfl rfl (by decide) ?_
                  refine y_val (r_move (v := .int _ _) rfl rfl) rfl rfl ?_
                  refine y_val (r_indexAddrSl (n := (n - 1) / 2) Try.underlying50 tyA99.size rfl rfl rfl (by first | omega | (simp only; omega))) rfl rfl ?_
                  refine y_val (r_fieldAddr _ Try.underlying99 rfl tyC35.size rfl rfl rfl) rfl rfl ?_
                  refine y_loadC 2 tyC35 (v := s1.v) (by kernel_rfl) rfl rfl rfl rfl k1 (by decide) ?_
                  refine y_val (r_fieldAddr 1 Try.underlying52 rfl tyC50.size rfl rfl rfl) rfl rfl ?_
                  refine y_loadC 1 tyC50 rfl rfl rfl rfl rfl rfl (by decide) ?_
                  refine y_val (r_move (v := .int _ _) rfl rfl) rfl rfl ?_
                  refine y_val (r_indexAddrSl (n := (n - 1) / 2) Try.underlying50 tyA99.size rfl rfl rfl (by first | omega | (simp only; omega))) rfl rfl ?_
                  refine y_val (r_fieldAddr _ Try.underlying99 rfl tyC35.size rfl rfl rfl) rfl rfl ?_
                  refine y_loadC 2 tyC35 (v := s0.v) (by kernel_rfl) rfl rfl rfl rfl k0 (by decide) ?_
                  refine y_tail ?_
                  intro W hW
                  refine l_callS (g_heard (oneUp h) pm pd gr cur r1 q1 ss1 M ((n - 1) / 2) s1.a s1.n s1.c l1 s0.a s0.n s0.c l0 ⟨hO.row, hO.len, hO.ps, hO.rest, hO.named⟩ (by omega) n1 n0 v1 (by omega) (show h.rest.length ≤ _ by omega) (show h.named.length ≤ _ by omega) (by omega) (by omega)) (hW.perm (List.perm_append_comm_assoc [_, _] [_] M)) en52 (List.sublist_append_right _ _) rfl rfl rfl rfl ?_
                  rintro _ _ W ⟨p2, r2, q2, ss2, Rb2, N2, rfl, hO2, rfl⟩ hW
                  replace hW := hW.perm List.perm_append_comm
                  refine l_storeA hW 0 tyA52 rfl rfl rfl rfl rfl rfl (by first | rfl | exact kc_len _ | exact kcf_len _ | (simp; done)) (by first | rfl | exact kc_len _ | exact kcf_len _ | (simp; done)) (by first | exact kc_one _ | exact kcf_one _ | (simp [Value.oneCell']; done)) ?_
                  intro W hW
                  refine l_val (r_assign (v := .int _ _) rfl rfl) rfl rfl ?_
                  refine l_end ?_
                  refine n_then ?_
                  refine c_ret ?_
                  refine r_then ?_
                  refine ret_cell_tmp hW 0 tyA52 rfl rfl rfl (by first | rfl | exact kc_len _ | exact kcf_len _ | (simp; done)) rfl ?_
                  exact ⟨_, (N2 ++ M) ++ Rb2, rfl, ⟨_, by rw [e]; rfl, by rw [e, hh]; exact ⟨_, _, _, _, rfl, hO2.newHu (List.sublist_append_left _ _) (List.sublist_append_right _ _)⟩⟩, ((show Cl _ (M ++ (N2 ++ Rb2)) _ from hW.drop 2).perm List.perm_append_comm).perm permN⟩
              · intro hc7
                replace hc7 := of_decide_eq_false hc7
                have hpm : pm = pn := by have a := hO.row.1; have b := hO.len; rw [List.length_map] at a; simp only at a; omega
                have hr1n := hO.rest.n
                have hq1n := hO.named.n
                refine l_end ?_
                refine n_then ?_
                refine c_false rfl ?_
                refine c_skip ?_
                refine n_then ?_
                refine c_seq ?_
                refine c_seq ?_
                refine c_reg ?_
                refine l_val (r_fieldAddr 2 Try.underlying52 rfl tyC35.size rfl rfl rfl) rfl rfl ?_
                refine l_loadC hW 1 tyC35 rfl rfl rfl rfl rfl rfl ?_
                refine l_val (r_lenSlice Try.underlying35 rfl rfl) rfl rfl ?_
                refine l_val (r_eqlN (n := 1) rfl rfl rfl rfl) rfl rfl ?_
                refine l_split ?_ ?_
                · intro hc9
                  replace hc9 := of_decide_eq_true hc9
                  refine l_end ?_
                  refine n_then ?_
                  refine c_true rfl ?_
                  refine c_reg ?_
                  refine l_val (r_fieldAddr 3 Try.underlying52 rfl tyC35.size rfl rfl rfl) rfl rfl ?_
                  refine l_loadC hW 1 tyC35 rfl rfl rfl rfl rfl rfl ?_
                  refine l_val (r_fieldAddr 2 Try.underlying52 rfl tyC35.size rfl rfl rfl) rfl rfl ?_
                  refine l_loadC hW 1 tyC35 rfl rfl rfl rfl rfl rfl ?_
                  refine l_callX hW (g_rmerged q1.a q1.n q1.c h.named r1.a r1.n r1.c h.rest (by omega) (by omega)) en53 ⟨hO.named.rep.at hW ((List.sublist_append_left M Rb).trans (List.sublist_append_right [_, _] _)), hO.rest.rep.at hW ((List.sublist_append_left M Rb).trans (List.sublist_append_right [_, _] _))⟩ rfl rfl rfl rfl ?_
                  rintro _ Bs1 W ⟨q2, rfl, hq2⟩ hW
                  refine l_val (r_fieldAddr 3 Try.underlying52 rfl tyC35.size rfl rfl rfl) rfl rfl ?_
                  refine l_storeC hW 1 tyC35 (v := .slice _ _ _) rfl rfl rfl rfl rfl rfl (by first | rfl | omega | (simp; done) | (simp; omega)) rfl ?_
                  intro W hW
                  refine l_end ?_
                  refine n_then ?_
                  refine c_seq ?_
                  refine c_reg ?_
                  refine l_val (r_fieldAddr 2 Try.underlying52 rfl tyC35.size rfl rfl rfl) rfl rfl ?_
                  refine l_storeC hW 1 tyC35 (v := .slice _ _ _) rfl rfl rfl rfl rfl rfl (by first | rfl | omega | (simp; done) | (simp; omega)) rfl ?_
                  intro W hW
                  refine l_end ?_
                  refine n_then ?_
                  refine c_seq ?_
                  refine c_reg ?_
                  refine l_loadA hW 1 tyA52 rfl rfl rfl rfl rfl (by first | rfl | exact kc_len _ | exact kcf_len _ | (simp; done)) ?_
                  refine l_storeA hW 0 tyA52 rfl rfl rfl rfl rfl rfl (by first | rfl | exact kc_len _ | exact kcf_len _ | (simp; done)) (by first | rfl | exact kc_len _ | exact kcf_len _ | (simp; done)) (by first | exact kc_one _ | exact kcf_one _ | (simp [Value.oneCell']; done)) ?_
                  intro W hW
                  refine l_val (r_assign (v := .int _ _) rfl rfl) rfl rfl ?_
                  refine l_end ?_
                  refine n_then ?_
                  refine c_ret ?_
                  refine ret_cell_tmp hW 0 tyA52 rfl rfl rfl (by first | rfl | exact kc_len _ | exact kcf_len _ | (simp; done)) rfl ?_
                  obtain rfl : n = 0 := by omega
                  have h0 : heard h 0 = ⟨h.users, h.ps, [], merged h.named h.rest, h.rounds + 1⟩ := by rw [heard_zero, if_pos (by omega), if_pos (by omega)]
                  have hO2 : OwnHu 99 ⟨h.users, h.ps, [], merged h.named h.rest, h.rounds + 1⟩ ⟨pb, pm, pd⟩ Sl.no q2 ss1 Rb (M ++ Bs1) := ⟨hO.row, hO.len, hO.ps.sub (List.sublist_append_left _ _), NewI.no.sub (List.nil_sublist _), hq2.sub (List.sublist_append_right _ _)⟩
                  exact ⟨_, (M ++ Bs1) ++ Rb, rfl, ⟨_, by rw [e]; rfl, by rw [e, h0]; exact ⟨_, _, _, _, rfl, hO2.newHu (List.sublist_append_left _ _) (List.sublist_append_right _ _)⟩⟩, (show Cl _ ((M ++ Rb) ++ Bs1) _ from hW.drop 2).perm permN⟩
                · intro hc9
                  replace hc9 := of_decide_eq_false hc9
                  refine l_end ?_
                  refine n_then ?_
                  refine c_false rfl ?_
                  refine c_regW hW [] [.q, .q, .q, .q, .mk 0, .tail, .tail, .tail, .tail] [⟨94, fun _ v Bs => ∃ s0 s1 : Sl, v = .agg [s0.v, s1.v].toArray ∧ NewI s0 (h.rest.take (halfN h.rest)) Bs ∧ NewI s1 (h.rest.drop (halfN h.rest)) Bs⟩] [[]] [4] [0, 1, 0, 4, 12, 28, 63, 127, 255] [] [.q, .q, .q, .q, .q, .mk 0, .tail, .tail, .tail] [95] [5] [2, 3, 4] [5, 6, 7, 8] [0, 1] (by kernel_rfl) (by kernel_rfl) rfl (by kernel_rfl) (by kernel_rfl) [(0, _, _), (1, _, _)] rfl ⟨rfl, rfl, trivial⟩ ⟨fun _ w _ _ => (r_fieldAddr 1 Try.underlying52 rfl tyC50.size rfl rfl rfl) w, _, rfl, ⟨fun _ w hs hC => run_loadC_at tyC50 1 rfl rfl (hs 1 _ (by decide) rfl) rfl w hC, _, rfl, trivial⟩⟩ ?_
                  refine y_val (r_fieldAddr 2 Try.underlying52 rfl tyC35.size rfl rfl rfl) rfl rfl ?_
                  refine y_loadC 1 tyC35 rfl rfl rfl rfl rfl rfl (by decide) ?_
                  refine y_callX 0 (g_rhalves r1.a r1.n r1.c h.rest (by omega)) en54 rfl rfl (fun L2 w hs hC => hO.rest.rep.at hC (((List.sublist_append_left M Rb).trans (List.sublist_append_right [_, _] _)).trans hs.pre)) rfl rfl ?_
                  refine y_tail ?_
                  refine y_made ?_
                  rintro _ Bs2 ⟨t0, t1, rfl, ht0, ht1⟩
                  refine ⟨[⟨95, bslX 99 1⟩], [[t0.v, t1.v]], ⟨rfl, rfl⟩, ?_⟩
                  refine y_val (r_fieldAddr 1 Try.underlying52 rfl tyC50.size rfl rfl rfl) rfl rfl ?_
                  refine y_loadC (Bs2.length + 1) tyC50 (v := .slice pb pm pd) rfl rfl rfl rfl (at_app rfl) rfl (by simp) ?_
                  refine y_buildSliceF 0 (bsl50_1_0 _ _ _ _ _ _) rfl rfl rfl rfl ?_
                  refine y_tail ?_
                  refine y_made ?_
                  rintro _ _ ⟨gb, rfl, rfl⟩
                  intro W hW
                  replace hW := (show Cl _ (_ :: (Bs2 ++ ([_, _] ++ (M ++ Rb)))) _ from hW).perm (List.Perm.cons _ perm6)
                  refine l_appendB tyE50 (L := ⟨gb, [t0.v, t1.v], _⟩ :: ([_, _] ++ (M ++ Bs2))) hO.row hW 0 (N := pm + 1) rfl rfl rfl rfl rfl rfl rfl rfl (by simp [Value.oneCell']) (by unfold maxLen; omega) (by omega) ?_
                  intro a1 c1 Bs5 W hO1 hW
                  replace hO1 := hO1.castx rfl (xs' := (ss1 ++ [t0, t1]).map Sl.v) (by simp)
                  refine l_val (r_fieldAddr 1 Try.underlying52 rfl tyC50.size rfl rfl rfl) rfl rfl ?_
                  refine l_storeC hW 2 tyC50 (v := .slice _ _ _) rfl rfl rfl rfl rfl rfl (by first | rfl | omega | (simp; done) | (simp; omega)) rfl ?_
                  intro W hW
                  refine l_end ?_
                  refine n_then ?_
                  refine c_seq ?_
                  refine c_reg ?_
                  refine l_val (r_fieldAddr 2 Try.underlying52 rfl tyC35.size rfl rfl rfl) rfl rfl ?_
                  refine l_storeC hW 2 tyC35 (v := .slice _ _ _) rfl rfl rfl rfl rfl rfl (by first | rfl | omega | (simp; done) | (simp; omega)) rfl ?_
                  intro W hW
                  refine l_end ?_
                  refine n_then ?_
                  refine c_seq ?_
                  refine c_reg ?_
                  refine l_loadA hW 2 tyA52 rfl rfl rfl rfl rfl (by first | rfl | exact kc_len _ | exact kcf_len _ | (simp; done)) ?_
                  refine l_storeA hW 1 tyA52 rfl rfl rfl rfl rfl rfl (by first | rfl | exact kc_len _ | exact kcf_len _ | (simp; done)) (by first | rfl | exact kc_len _ | exact kcf_len _ | (simp; done)) (by first | exact kc_one _ | exact kcf_one _ | (simp [Value.oneCell']; done)) ?_
                  intro W hW
                  refine l_val (r_assign (v := .int _ _) rfl rfl) rfl rfl ?_
                  refine l_end ?_
                  refine n_then ?_
                  refine c_ret ?_
                  refine ret_cell_tmp hW 1 tyA52 rfl rfl rfl (by first | rfl | exact kc_len _ | exact kcf_len _ | (simp; done)) rfl ?_
                  obtain rfl : n = 0 := by omega
                  have h0 : heard h 0 = ⟨h.users, h.ps ++ [h.rest.take (halfN h.rest), h.rest.drop (halfN h.rest)], [], h.named, h.rounds + 1⟩ := by rw [heard_zero, if_neg (by omega), if_neg (by omega)]
                  have hO2 : OwnHu 99 ⟨h.users, h.ps ++ [h.rest.take (halfN h.rest), h.rest.drop (halfN h.rest)], [], h.named, h.rounds + 1⟩ ⟨a1, pm + 1, c1⟩ Sl.no q1 (ss1 ++ [t0, t1]) Bs5 (M ++ Bs2) := ⟨hO1, by rw [List.length_append, List.length_append, hO.len]; rfl, hO.ps.add hO.len (List.sublist_append_left _ _) (ht0.sub (List.sublist_append_right _ _)) (ht1.sub (List.sublist_append_right _ _)), NewI.no.sub (List.nil_sublist _), hO.named.sub (List.sublist_append_left _ _)⟩
                  exact ⟨_, (M ++ Bs2) ++ Bs5, rfl, ⟨_, by rw [e]; rfl, by rw [e, h0]; exact ⟨_, _, _, _, rfl, hO2.newHu (List.sublist_append_left _ _) (List.sublist_append_right _ _)⟩⟩, (show Cl _ ((M ++ Bs2) ++ Bs5) _ from hW.drop 3)⟩
        · intro hc4
          replace hc4 := of_decide_eq_false hc4
          refine l_valG (r_move (v := .bool _) rfl rfl) (by kernel_rfl) rfl ?_
          refine l_not (by kernel_rfl) rfl ?_
          refine l_not (by kernel_rfl) rfl ?_
          refine l_not (by kernel_rfl) rfl ?_
          refine l_not (by kernel_rfl) rfl ?_
          refine l_valG (r_pick (v := .bool _) rfl rfl rfl) (by kernel_rfl) rfl ?_
          refine l_val (r_pick (v := .bool _) rfl rfl rfl) rfl rfl ?_
          refine l_end ?_
          refine n_then ?_
          refine c_false rfl ?_
          refine c_skip ?_
          refine n_then ?_
          refine c_seq ?_
          refine c_seq ?_
          refine c_reg ?_
          refine l_val (r_fieldAddr 4 Try.underlying52 rfl tyC3.size rfl rfl rfl) rfl rfl ?_
          refine l_loadC hW 1 tyC3 rfl rfl rfl rfl rfl rfl ?_
          refine l_val (r_eql rfl rfl rfl rfl) rfl rfl ?_
          refine l_split ?_ ?_
          · intro hc10
            replace hc10 := of_decide_eq_true hc10
            refine l_end ?_
            refine n_then ?_
            refine c_true rfl ?_
            refine c_seq ?_
            refine c_reg ?_
            refine l_val (r_build (ps := []) (bld52_) rfl rfl) rfl rfl ?_
            refine l_storeA hW 0 tyA52 rfl rfl rfl rfl rfl rfl (by first | rfl | exact kc_len _ | exact kcf_len _ | (simp; done)) (by first | rfl | exact kc_len _ | exact kcf_len _ | (simp; done)) (by first | exact kc_one _ | exact kcf_one _ | (simp [Value.oneCell']; done)) ?_
            intro W hW
            refine l_val (r_assign (v := .int _ _) rfl rfl) rfl rfl ?_
            refine l_end ?_
            refine n_then ?_
            refine c_ret ?_
            refine r_then ?_
            refine ret_cell_tmp hW 0 tyA52 rfl rfl rfl (by first | rfl | exact kc_len _ | exact kcf_len _ | (simp; done)) rfl ?_
            have e := hear_9 (x := (n : Int)) hc1 (by omega) (by omega)
            exact ⟨_, [], rfl, ⟨.agg (huC noHunt Sl.no Sl.no Sl.no).toArray, by rw [e]; rfl, by rw [e]; exact ⟨_, _, _, _, rfl, no_newHu⟩⟩, hW.sub (List.nil_sublist _)⟩
          · intro hc10
            replace hc10 := of_decide_eq_false hc10
            have hv := (valid_iff h).1 hc1
            have e := hear_0 (n := n) hc1 (by omega) (by omega)
            have hv1 := hv.u1
            have hv2 := hv.r1
            have hv3 := hv.r2
            have hv4 := hv.p
            refine l_end ?_
            refine n_then ?_
            refine c_false rfl ?_
            refine c_skip ?_
            refine n_then ?_
            refine c_seq ?_
            refine c_reg ?_
            refine l_loadA hW 1 tyA52 rfl rfl rfl rfl rfl (by first | rfl | exact kc_len _ | exact kcf_len _ | (simp; done)) ?_
            refine l_callX hW (g_TwinHunt h pa pn pc r q ss hsm hfit) en18 (hP.past hW.below) rfl rfl rfl rfl ?_
            rintro _ _ W ⟨⟨pb, pm, pd⟩, r1, q1, ss1, Rb, M, rfl, hO, rfl⟩ hW
            refine l_storeA hW 1 tyA52 rfl rfl rfl rfl rfl rfl (by first | rfl | exact kc_len _ | exact kcf_len _ | (simp; done)) (by first | rfl | exact kc_len _ | exact kcf_len _ | (simp; done)) (by first | exact kc_one _ | exact kcf_one _ | (simp [Value.oneCell']; done)) ?_
            intro W hW
            refine l_end ?_
            refine n_then ?_
            refine c_seq ?_
            refine c_reg ?_
            refine l_val (r_fieldAddr 4 Try.underlying52 rfl tyC3.size rfl rfl rfl) rfl rfl ?_
            refine l_loadC hW 1 tyC3 rfl rfl rfl rfl rfl rfl ?_
            refine l_val (r_addZ rfl rfl rfl (by omega)) rfl rfl ?_
            refine l_val (r_fieldAddr 4 Try.underlying52 rfl tyC3.size rfl rfl rfl) rfl rfl ?_
            refine l_storeC hW 1 tyC3 (v := .int _ _) rfl rfl rfl rfl rfl rfl (by first | rfl | omega | (simp; done) | (simp; omega)) rfl ?_
            intro W hW
            refine l_end ?_
            refine n_then ?_
            refine c_seq ?_
            refine c_seq ?_
            refine c_reg ?_
            refine l_val (r_move (v := .int _ _) rfl rfl) rfl rfl ?_
            refine l_val (r_gtrN (n := 0) rfl rfl rfl rfl) rfl rfl ?_
            refine l_split ?_ ?_
            · intro hc11
              replace hc11 := of_decide_eq_true hc11
              have hpm : pm = pn := by have a := hO.row.1; have b := hO.len; rw [List.length_map] at a; simp only at a; omega
              obtain ⟨gr, cur, ha, hRb, -, -, -⟩ := hO.row.row (by simp only; omega)
              simp only at ha
              subst ha
              subst hRb
              replace hW := hW.perm (List.Perm.append_left [_, _] List.perm_append_comm)
              refine l_end ?_
              refine n_then ?_
              refine c_true rfl ?_
              refine c_seq ?_
              refine c_reg ?_
              refine l_val (r_move (v := .int _ _) rfl rfl) rfl rfl ?_
              refine l_val (r_subN (n := 1) rfl rfl rfl (by omega) (by omega)) rfl rfl ?_
              refine l_val (r_quoN (n := 2) rfl rfl rfl (by omega) (by omega)) rfl rfl ?_
              refine l_val (r_assign (v := .int _ _) rfl rfl) rfl rfl ?_
              refine l_end ?_
              refine n_then ?_
              refine c_seq ?_
              refine c_seq ?_
              refine c_reg ?_
              refine l_val (r_move (v := .int _ _) rfl rfl) rfl rfl ?_
              refine l_val (r_remN (n := 2) rfl rfl rfl (by omega)) rfl rfl ?_
              refine l_val (r_eqlN (n := 1) rfl rfl rfl rfl) rfl rfl ?_
              refine l_split ?_ ?_
              · intro hc12
                replace hc12 := of_decide_eq_true hc12
                obtain ⟨s0, s1, e0, e1, k0, k1⟩ := hO.row.pair2 (i := (n - 1) / 2) (by simp only; omega)
                obtain ⟨l0, f0, n0⟩ := hO.ps _ _ e0
                obtain ⟨l1, f1, n1⟩ := hO.ps _ _ e1
                have v0 := (hv.ps l0 (List.mem_of_getElem? f0)).2
                have v1 := (hv.ps l1 (List.mem_of_getElem? f1)).2
                have y0 := hone l0 (List.mem_of_getElem? (i := 2 * ((n - 1) / 2) + 2) f0)
                have y1 := hone l1 (List.mem_of_getElem? (i := 2 * ((n - 1) / 2) + 3) f1)
                have hh := heard_at (x := n) (by omega) rfl f0 f1 v0 v1
                rw [if_pos (by omega), if_pos (by omega)] at hh
                refine l_end ?_
                refine n_then ?_
                refine c_true rfl ?_
                refine c_seq ?_
                refine c_regM hW [] [.q, .q, .q, .q, .q, .q, .q, .q, .q, .q, .q, .q, .q, .q, .tail, .tail, .tail] [] [] [] [0, 0, 0, 4, 0, 28, 60, 124, 0, 256, 0, 1792, 3840, 7936, 16383, 32767, 65535] (by kernel_rfl) (by kernel_rfl) rfl (by kernel_rfl) ?_
                refine y_loadA 1 tyA52 rfl rfl rfl rfl rfl (by first | rfl | exact kc_len _ | exact kcf_len _ | (simp; done)) (by decide) ?_
                refine y_val (r_move (v := .int _ _) rfl rfl) rfl rfl ?_
                refine y_val (r_fieldAddr 1 Try.underlying52 rfl tyC50.size rfl rfl rfl) rfl rfl ?_
                refine y_loadC 1 tyC50 rfl rfl rfl rfl rfl rfl (by decide) ?_
                refine y_val (r_move (v := .int _ _) rfl rfl) rfl rfl ?_
                refine y_val (r_indexAddrSl (n := (n - 1) / 2) Try.underlying50 tyA99.size rfl rfl rfl (by first | omega | (simp only; omega))) rfl rfl ?_
                refine y_val (r_fieldAddr _ Try.underlying99 rfl tyC35.size rfl rfl rfl) rfl rfl ?_
                refine y_loadC 2 tyC35 (v := s0.v) (by kernel_rfl) rfl rfl rfl rfl k0 (by decide) ?_
                refine y_val (r_fieldAddr 1 Try.underlying52 rfl tyC50.size rfl rfl rfl) rfl rfl ?_
                refine y_loadC 1 tyC50 rfl rfl rfl rfl rfl rfl (by decide) ?_
                refine y_val (r_move (v := .int _ _) rfl rfl) rfl rfl ?_
                refine y_val (r_indexAddrSl (n := (n - 1) / 2) Try.underlying50 tyA99.size rfl rfl rfl (by first | omega | (simp only; omega))) rfl rfl ?_
                refine y_val (r_fieldAddr _ Try.underlying99 rfl tyC35.size rfl rfl rfl) rfl rfl ?_
                refine y_loadC 2 tyC35 (v := s1.v) (by kernel_rfl) rfl rfl rfl rfl k1 (by decide) ?_
                refine y_tail ?_
                intro W hW
                refine l_callS (g_heard (oneUp h) pm pd gr cur r1 q1 ss1 M ((n - 1) / 2) s0.a s0.n s0.c l0 s1.a s1.n s1.c l1 ⟨hO.row, hO.len, hO.ps, hO.rest, hO.named⟩ (by omega) n0 n1 v0 (by omega) (show h.rest.length ≤ _ by omega) (show h.named.length ≤ _ by omega) (by omega) (by omega)) (hW.perm (List.perm_append_comm_assoc [_, _] [_] M)) en52 (List.sublist_append_right _ _) rfl rfl rfl rfl ?_
                rintro _ _ W ⟨p2, r2, q2, ss2, Rb2, N2, rfl, hO2, rfl⟩ hW
                replace hW := hW.perm List.perm_append_comm
                refine l_storeA hW 0 tyA52 rfl rfl rfl rfl rfl rfl (by first | rfl | exact kc_len _ | exact kcf_len _ | (simp; done)) (by first | rfl | exact kc_len _ | exact kcf_len _ | (simp; done)) (by first | exact kc_one _ | exact kcf_one _ | (simp [Value.oneCell']; done)) ?_
                intro W hW
                refine l_val (r_assign (v := .int _ _) rfl rfl) rfl rfl ?_
                refine l_end ?_
                refine n_then ?_
                refine c_ret ?_
                refine r_then ?_
                refine r_then ?_
                refine ret_cell_tmp hW 0 tyA52 rfl rfl rfl (by first | rfl | exact kc_len _ | exact kcf_len _ | (simp; done)) rfl ?_
                exact ⟨_, (N2 ++ M) ++ Rb2, rfl, ⟨_, by rw [e]; rfl, by rw [e, hh]; exact ⟨_, _, _, _, rfl, hO2.newHu (List.sublist_append_left _ _) (List.sublist_append_right _ _)⟩⟩, ((show Cl _ (M ++ (N2 ++ Rb2)) _ from hW.drop 2).perm List.perm_append_comm).perm permN⟩
              · intro hc12
                replace hc12 := of_decide_eq_false hc12
                obtain ⟨s0, s1, e0, e1, k0, k1⟩ := hO.row.pair2 (i := (n - 1) / 2) (by simp only; omega)
                obtain ⟨l0, f0, n0⟩ := hO.ps _ _ e0
                obtain ⟨l1, f1, n1⟩ := hO.ps _ _ e1
                have v0 := (hv.ps l0 (List.mem_of_getElem? f0)).2
                have v1 := (hv.ps l1 (List.mem_of_getElem? f1)).2
                have y0 := hone l0 (List.mem_of_getElem? (i := 2 * ((n - 1) / 2) + 2) f0)
                have y1 := hone l1 (List.mem_of_getElem? (i := 2 * ((n - 1) / 2) + 3) f1)
                have hh := heard_at (x := n) (by omega) rfl f0 f1 v0 v1
                rw [if_neg (by omega), if_neg (by omega)] at hh
                refine l_end ?_
                refine n_then ?_
                refine c_false rfl ?_
                refine c_skip ?_
                refine n_then ?_
                refine c_seq ?_
                refine c_regM hW [] [.q, .q, .q, .q, .q, .q, .q, .q, .q, .q, .q, .q, .q, .q, .tail, .tail, .tail] [] [] [] [0, 0, 0, 4, 0, 28, 60, 124, 0, 256, 0, 1792, 3840, 7936, 16383, 32767, 65535] (by kernel_rfl) (by kernel_rfl) rfl (by kernel_rfl) ?_
                refine y_loadA 1 tyA52 rfl rfl rfl rfl rfl (by first | rfl | exact kc_len _ | exact kcf_len _ | (simp; done)) (by decide) ?_
                refine y_val (r_move (v := .int _ _) rfl rfl) rfl rfl ?_
                refine y_val (r_fieldAddr 1 Try.underlying52 rfl tyC50.size rfl rfl rfl) rfl rfl ?_
                refine y_loadC 1 tyC50 rfl rfl rfl rfl rfl rfl (by decide) ?_
                refine y_val (r_move (v := .int _ _) rfl rfl) rfl rfl ?_
                refine y_val (r_indexAddrSl (n := (n - 1) / 2) Try.underlying50 tyA99.size rfl rfl rfl (by first | omega | (simp only; omega))) rfl rfl ?_
                refine y_val (r_fieldAddr _ Try.underlying99 rfl tyC35.size rfl rfl rfl) rfl rfl ?_
                refine y_loadC 2 tyC35 (v := s1.v) (by kernel_rfl) rfl rfl rfl rfl k1 (by decide) ?_
                refine y_val (r_fieldAddr 1 Try.underlying52 rfl tyC50.size rfl rfl rfl) rfl rfl ?_
                refine y_loadC 1 tyC50 rfl rfl rfl rfl rfl rfl (by decide) ?_
                refine y_val (r_move (v := .int _ _) rfl rfl) rfl rfl ?_
                refine y_val (r_indexAddrSl (n := (n - 1) / 2) Try.underlying50 tyA99.size rfl rfl rfl (by first | omega | (simp only; omega))) rfl rfl ?_
                refine y_val (r_fieldAddr _ Try.underlying99 rfl tyC35.size rfl rfl rfl) rfl rfl ?_
                refine y_loadC 2 tyC35 (v := s0.v) (by kernel_rfl) rfl rfl rfl rfl k0 (by decide) ?_
                refine y_tail ?_
                intro W hW
                refine l_callS (g_heard (oneUp h) pm pd gr cur r1 q1 ss1 M ((n - 1) / 2) s1.a s1.n s1.c l1 s0.a s0.n s0.c l0 ⟨hO.row, hO.len, hO.ps, hO.rest, hO.named⟩ (by omega) n1 n0 v1 (by omega) (show h.rest.length ≤ _ by omega) (show h.named.length ≤ _ by omega) (by omega) (by omega)) (hW.perm (List.perm_append_comm_assoc [_, _] [_] M)) en52 (List.sublist_append_right _ _) rfl rfl rfl rfl ?_
                rintro _ _ W ⟨p2, r2, q2, ss2, Rb2, N2, rfl, hO2, rfl⟩ hW
                replace hW := hW.perm List.perm_append_comm
                refine l_storeA hW 0 tyA52 rfl rfl rfl rfl rfl rfl (by first | rfl | exact kc_len _ | exact kcf_len _ | (simp; done)) (by first | rfl | exact kc_len _ | exact kcf_len _ | (simp; done)) (by first | exact kc_one _ | exact kcf_one _ | (simp [Value.oneCell']; done)) ?_
                intro W hW
                refine l_val (r_assign (v := .int _ _) rfl rfl) rfl rfl ?_
                refine l_end ?_
                refine n_then ?_
                refine c_ret ?_
                refine r_then ?_
                refine ret_cell_tmp hW 0 tyA52 rfl rfl rfl (by first | rfl | exact kc_len _ | exact kcf_len _ | (simp; done)) rfl ?_
                exact ⟨_, (N2 ++ M) ++ Rb2, rfl, ⟨_, by rw [e]; rfl, by rw [e, hh]; exact ⟨_, _, _, _, rfl, hO2.newHu (List.sublist_append_left _ _) (List.sublist_append_right _ _)⟩⟩, ((show Cl _ (M ++ (N2 ++ Rb2)) _ from hW.drop 2).perm List.perm_append_comm).perm permN⟩
            · intro hc11
              replace hc11 := of_decide_eq_false hc11
              have hpm : pm = pn := by have a := hO.row.1; have b := hO.len; rw [List.length_map] at a; simp only at a; omega
              have hr1n := hO.rest.n
              have hq1n := hO.named.n
              refine l_end ?_
              refine n_then ?_
              refine c_false rfl ?_
              refine c_skip ?_
              refine n_then ?_
              refine c_seq ?_
              refine c_seq ?_
              refine c_reg ?_
              refine l_val (r_fieldAddr 2 Try.underlying52 rfl tyC35.size rfl rfl rfl) rfl rfl ?_
              refine l_loadC hW 1 tyC35 rfl rfl rfl rfl rfl rfl ?_
              refine l_val (r_lenSlice Try.underlying35 rfl rfl) rfl rfl ?_
              refine l_val (r_eqlN (n := 1) rfl rfl rfl rfl) rfl rfl ?_
              refine l_split ?_ ?_
              · intro hc13
                replace hc13 := of_decide_eq_true hc13
                refine l_end ?_
                refine n_then ?_
                refine c_true rfl ?_
                refine c_reg ?_
                refine l_val (r_fieldAddr 3 Try.underlying52 rfl tyC35.size rfl rfl rfl) rfl rfl ?_
                refine l_loadC hW 1 tyC35 rfl rfl rfl rfl rfl rfl ?_
                refine l_val (r_fieldAddr 2 Try.underlying52 rfl tyC35.size rfl rfl rfl) rfl rfl ?_
                refine l_loadC hW 1 tyC35 rfl rfl rfl rfl rfl rfl ?_
                refine l_callX hW (g_rmerged q1.a q1.n q1.c h.named r1.a r1.n r1.c h.rest (by omega) (by omega)) en53 ⟨hO.named.rep.at hW ((List.sublist_append_left M Rb).trans (List.sublist_append_right [_, _] _)), hO.rest.rep.at hW ((List.sublist_append_left M Rb).trans (List.sublist_append_right [_, _] _))⟩ rfl rfl rfl rfl ?_
                rintro _ Bs1 W ⟨q2, rfl, hq2⟩ hW
                refine l_val (r_fieldAddr 3 Try.underlying52 rfl tyC35.size rfl rfl rfl) rfl rfl ?_
                refine l_storeC hW 1 tyC35 (v := .slice _ _ _) rfl rfl rfl rfl rfl rfl (by first | rfl | omega | (simp; done) | (simp; omega)) rfl ?_
                intro W hW
                refine l_end ?_
                refine n_then ?_
                refine c_seq ?_
                refine c_reg ?_
                refine l_val (r_fieldAddr 2 Try.underlying52 rfl tyC35.size rfl rfl rfl) rfl rfl ?_
                refine l_storeC hW 1 tyC35 (v := .slice _ _ _) rfl rfl rfl rfl rfl rfl (by first | rfl | omega | (simp; done) | (simp; omega)) rfl ?_
                intro W hW
                refine l_end ?_
                refine n_then ?_
                refine c_seq ?_
                refine c_reg ?_
                refine l_loadA hW 1 tyA52 rfl rfl rfl rfl rfl (by first | rfl | exact kc_len _ | exact kcf_len _ | (simp; done)) ?_
                refine l_storeA hW 0 tyA52 rfl rfl rfl rfl rfl rfl (by first | rfl | exact kc_len _ | exact kcf_len _ | (simp; done)) (by first | rfl | exact kc_len _ | exact kcf_len _ | (simp; done)) (by first | exact kc_one _ | exact kcf_one _ | (simp [Value.oneCell']; done)) ?_
                intro W hW
                refine l_val (r_assign (v := .int _ _) rfl rfl) rfl rfl ?_
                refine l_end ?_
                refine n_then ?_
                refine c_ret ?_
                refine ret_cell_tmp hW 0 tyA52 rfl rfl rfl (by first | rfl | exact kc_len _ | exact kcf_len _ | (simp; done)) rfl ?_
                obtain rfl : n = 0 := by omega
                have h0 : heard h 0 = ⟨h.users, h.ps, [], merged h.named h.rest, h.rounds + 1⟩ := by rw [heard_zero, if_pos (by omega), if_pos (by omega)]
                have hO2 : OwnHu 99 ⟨h.users, h.ps, [], merged h.named h.rest, h.rounds + 1⟩ ⟨pb, pm, pd⟩ Sl.no q2 ss1 Rb (M ++ Bs1) := ⟨hO.row, hO.len, hO.ps.sub (List.sublist_append_left _ _), NewI.no.sub (List.nil_sublist _), hq2.sub (List.sublist_append_right _ _)⟩
                exact ⟨_, (M ++ Bs1) ++ Rb, rfl, ⟨_, by rw [e]; rfl, by rw [e, h0]; exact ⟨_, _, _, _, rfl, hO2.newHu (List.sublist_append_left _ _) (List.sublist_append_right _ _)⟩⟩, (show Cl _ ((M ++ Rb) ++ Bs1) _ from hW.drop 2).perm permN⟩
              · intro hc13
                replace hc13 := of_decide_eq_false hc13
                refine l_end ?_
                refine n_then ?_
                refine c_false rfl ?_
                refine c_regW hW [] [.q, .q, .q, .q, .mk 0, .tail, .tail, .tail, .tail] [⟨94, fun _ v Bs => ∃ s0 s1 : Sl, v = .agg [s0.v, s1.v].toArray ∧ NewI s0 (h.rest.take (halfN h.rest)) Bs ∧ NewI s1 (h.rest.drop (halfN h.rest)) Bs⟩] [[]] [4] [0, 1, 0, 4, 12, 28, 63, 127, 255] [] [.q, .q, .q, .q, .q, .mk 0, .tail, .tail, .tail] [95] [5] [2, 3, 4] [5, 6, 7, 8] [0, 1] (by kernel_rfl) (by kernel_rfl) rfl (by kernel_rfl) (by kernel_rfl) [(0, _, _), (1, _, _)] rfl ⟨rfl, rfl, trivial⟩ ⟨fun _ w _ _ => (r_fieldAddr 1 Try.underlying52 rfl tyC50.size rfl rfl rfl) w, _, rfl, ⟨fun _ w hs hC => run_loadC_at tyC50 1 rfl rfl (hs 1 _ (by decide) rfl) rfl w hC, _, rfl, trivial⟩⟩ ?_
                refine y_val (r_fieldAddr 2 Try.underlying52 rfl tyC35.size rfl rfl rfl) rfl rfl ?_
                refine y_loadC 1 tyC35 rfl rfl rfl rfl rfl rfl (by decide) ?_
                refine y_callX 0 (g_rhalves r1.a r1.n r1.c h.rest (by omega)) en54 rfl rfl (fun L2 w hs hC => hO.rest.rep.at hC (((List.sublist_append_left M Rb).trans (List.sublist_append_right [_, _] _)).trans hs.pre)) rfl rfl ?_
                refine y_tail ?_
                refine y_made ?_
                rintro _ Bs2 ⟨t0, t1, rfl, ht0, ht1⟩
                refine ⟨[⟨95, bslX 99 1⟩], [[t0.v, t1.v]], ⟨rfl, rfl⟩, ?_⟩
                refine y_val (r_fieldAddr 1 Try.underlying52 rfl tyC50.size rfl rfl rfl) rfl rfl ?_
                refine y_loadC (Bs2.length + 1) tyC50 (v := .slice pb pm pd) rfl rfl rfl rfl (at_app rfl) rfl (by simp) ?_
                refine y_buildSliceF 0 (bsl50_1_0 _ _ _ _ _ _) rfl rfl rfl rfl ?_
                refine y_tail ?_
                refine y_made ?_
                rintro _ _ ⟨gb, rfl, rfl⟩
                intro W hW
                replace hW := (show Cl _ (_ :: (Bs2 ++ ([_, _] ++ (M ++ Rb)))) _ from hW).perm (List.Perm.cons _ perm6)
                refine l_appendB tyE50 (L := ⟨gb, [t0.v, t1.v], _⟩ :: ([_, _] ++ (M ++ Bs2))) hO.row hW 0 (N := pm + 1) rfl rfl rfl rfl rfl rfl rfl rfl (by simp [Value.oneCell']) (by unfold maxLen; omega) (by omega) ?_
                intro a1 c1 Bs5 W hO1 hW
                replace hO1 := hO1.castx rfl (xs' := (ss1 ++ [t0, t1]).map Sl.v) (by simp)
                refine l_val (r_fieldAddr 1 Try.underlying52 rfl tyC50.size rfl rfl rfl) rfl rfl ?_
                refine l_storeC hW 2 tyC50 (v := .slice _ _ _) rfl rfl rfl rfl rfl rfl (by first | rfl | omega | (simp; done) | (simp; omega)) rfl ?_
                intro W hW
                refine l_end ?_
                refine n_then ?_
                refine c_seq ?_
                refine c_reg ?_
                refine l_val (r_fieldAddr 2 Try.underlying52 rfl tyC35.size rfl rfl rfl) rfl rfl ?_
                refine l_storeC hW 2 tyC35 (v := .slice _ _ _) rfl rfl rfl rfl rfl rfl (by first | rfl | omega | (simp; done) | (simp; omega)) rfl ?_
                intro W hW
                refine l_end ?_
                refine n_then ?_
                refine c_seq ?_
                refine c_reg ?_
                refine l_loadA hW 2 tyA52 rfl rfl rfl rfl rfl (by first | rfl | exact kc_len _ | exact kcf_len _ | (simp; done)) ?_
                refine l_storeA hW 1 tyA52 rfl rfl rfl rfl rfl rfl (by first | rfl | exact kc_len _ | exact kcf_len _ | (simp; done)) (by first | rfl | exact kc_len _ | exact kcf_len _ | (simp; done)) (by first | exact kc_one _ | exact kcf_one _ | (simp [Value.oneCell']; done)) ?_
                intro W hW
                refine l_val (r_assign (v := .int _ _) rfl rfl) rfl rfl ?_
                refine l_end ?_
                refine n_then ?_
                refine c_ret ?_
                refine ret_cell_tmp hW 1 tyA52 rfl rfl rfl (by first | rfl | exact kc_len _ | exact kcf_len _ | (simp; done)) rfl ?_
                obtain rfl : n = 0 := by omega
                have h0 : heard h 0 = ⟨h.users, h.ps ++ [h.rest.take (halfN h.rest), h.rest.drop (halfN h.rest)], [], h.named, h.rounds + 1⟩ := by rw [heard_zero, if_neg (by omega), if_neg (by omega)]
                have hO2 : OwnHu 99 ⟨h.users, h.ps ++ [h.rest.take (halfN h.rest), h.rest.drop (halfN h.rest)], [], h.named, h.rounds + 1⟩ ⟨a1, pm + 1, c1⟩ Sl.no q1 (ss1 ++ [t0, t1]) Bs5 (M ++ Bs2) := ⟨hO1, by rw [List.length_append, List.length_append, hO.len]; rfl, hO.ps.add hO.len (List.sublist_append_left _ _) (ht0.sub (List.sublist_append_right _ _)) (ht1.sub (List.sublist_append_right _ _)), NewI.no.sub (List.nil_sublist _), hO.named.sub (List.sublist_append_left _ _)⟩
                exact ⟨_, (M ++ Bs2) ++ Bs5, rfl, ⟨_, by rw [e]; rfl, by rw [e, h0]; exact ⟨_, _, _, _, rfl, hO2.newHu (List.sublist_append_left _ _) (List.sublist_append_right _ _)⟩⟩, (show Cl _ ((M ++ Bs2) ++ Bs5) _ from hW.drop 3)⟩
  · intro hc1
    refine l_val (r_not rfl rfl) rfl rfl ?_
    refine l_end ?_
    refine n_then ?_
    refine c_true rfl ?_
    refine c_seq ?_
    refine c_reg ?_
    refine l_val (r_build (ps := []) (bld52_) rfl rfl) rfl rfl ?_
    refine l_storeA hW 0 tyA52 rfl rfl rfl rfl rfl rfl (by first | rfl | exact kc_len _ | exact kcf_len _ | (simp; done)) (by first | rfl | exact kc_len _ | exact kcf_len _ | (simp; done)) (by first | exact kc_one _ | exact kcf_one _ | (simp [Value.oneCell']; done)) ?_
    intro W hW
    refine l_val (r_assign (v := .int _ _) rfl rfl) rfl rfl ?_
    refine l_end ?_
    refine n_then ?_
    refine c_ret ?_
    refine r_then ?_
    refine ret_cell_tmp hW 0 tyA52 rfl rfl rfl (by first | rfl | exact kc_len _ | exact kcf_len _ | (simp; done)) rfl ?_
    have e := hear_8 (x := (n : Int)) hc1
    exact ⟨_, [], rfl, ⟨.agg (huC noHunt Sl.no Sl.no Sl.no).toArray, by rw [e]; rfl, by rw [e]; exact ⟨_, _, _, _, rfl, no_newHu⟩⟩, hW.sub (List.nil_sublist _)⟩

end Go.Proofs.Ytoegpalacppllaa

/- What is heard, of any number. -/
namespace Go.Proofs.Ytoegpalacppllaa
open Go.RowKit Pl
open Tr Hn
set_option maxRecDepth 10000 in
/-- headend/trace.Hear -/
theorem g_HearM (h : Hu) (pa : Option Addr) (pn pc : Nat) (r q : Sl) (ss : List Sl) (x : Int) (hx : x < 0) (hsm : Small h) (hfit : pn * 48 ≤ 140737488351232) : GivesX Try.prog 23 [.agg [.int .i64 h.users, .slice pa pn pc, .slice r.a r.n r.c, .slice q.a q.n q.c, .int .i64 h.rounds].toArray, .int .i64 x].toArray (fun w => RdHu w h ⟨pa, pn, pc⟩ r q ss) (fun v Bs => ∃ a, v = .tuple #[a, .int .i64 ((hear h x).2 : Int)] ∧ huX (hear h x).1 a Bs) := by
  refine givesX_of Try.func23 rfl (bs := [.agg [.int .i64 h.users, .slice pa pn pc, .slice r.a r.n r.c, .slice q.a q.n q.c, .int .i64 h.rounds].toArray, .int .i64 x, undef, undef, undef, undef, undef, undef, undef, undef, undef, undef, undef, undef, undef, undef, undef, undef, undef, undef, undef, undef, undef, undef, undef, undef, undef, undef, undef, undef, undef, undef, undef, undef, undef, undef, undef, undef, undef, undef, undef, undef, undef, undef, undef, undef, undef, undef, undef, undef, undef, undef, undef, undef, undef, undef, undef, undef, undef, undef, undef, undef, undef, undef, undef, undef, undef, undef, undef, undef, undef, undef, undef, undef, undef, undef, undef, undef, undef, undef, undef, undef, undef, undef, undef, undef, undef, undef, undef, undef, undef, undef, undef, undef, undef, undef, undef, undef, undef, undef, undef, undef, undef, undef, undef, undef, undef, undef, undef, undef, undef, undef, undef, undef, undef, undef, undef, undef, undef, undef, undef, undef, undef, undef, undef, undef, undef, undef, undef, undef, undef]) rfl ?_
  intro w hP hW
  have hpn := hP.pn
  have hpl := hP.len
  simp only at hpn
  have hgl := hP.gl
  have hgs := hsm.sum
  have hone := hsm.one
  refine c_seq ?_
  refine c_reg ?_
  refine l_box hW rfl rfl rfl rfl ?_
  intro g1 W hW
  refine l_alloc hW tyZ52 rfl rfl rfl ?_
  intro g2 W hW
  refine l_val (r_assign (v := .int _ _) rfl rfl) rfl rfl ?_
  refine l_end ?_
  refine n_then ?_
  refine c_seq ?_
  refine c_reg ?_
  refine l_loadA hW 1 tyA52 rfl rfl rfl rfl rfl (by first | rfl | exact kc_len _ | exact kcf_len _ | (simp; done)) ?_
  refine l_callX hW (g_Variants h pa pn pc r q ss hsm hfit) en21 (hP.past hW.below) rfl rfl rfl rfl ?_
  rintro _ Bs0 W ⟨s, rfl, hs⟩ hW
  refine l_val (r_move (v := .tuple _) rfl rfl) rfl rfl ?_
  refine l_val (r_extract (v := .slice _ _ _) rfl rfl rfl) rfl rfl ?_
  refine l_val (r_extract (v := .int _ _) rfl rfl rfl) rfl rfl ?_
  refine l_val (r_assign (v := .slice _ _ _) rfl rfl) rfl rfl ?_
  refine l_val (r_assign (v := .int _ _) rfl rfl) rfl rfl ?_
  refine l_end ?_
  refine n_then ?_
  refine c_seq ?_
  refine c_seq ?_
  refine c_reg ?_
  refine l_val (r_move (v := .int _ _) rfl rfl) rfl rfl ?_
  refine l_val (r_neq rfl rfl rfl rfl) rfl rfl ?_
  refine l_split ?_ ?_
  · intro hc1
    replace hc1 := of_decide_eq_true hc1
    refine l_end ?_
    refine n_then ?_
    refine c_true rfl ?_
    refine c_seq ?_
    refine c_reg ?_
    refine l_val (r_build (ps := []) (bld52_) rfl rfl) rfl rfl ?_
    refine l_val (r_move (v := .int _ _) rfl rfl) rfl rfl ?_
    refine l_storeA hW 0 tyA52 rfl rfl rfl rfl rfl rfl (by first | rfl | exact kc_len _ | exact kcf_len _ | (simp; done)) (by first | rfl | exact kc_len _ | exact kcf_len _ | (simp; done)) (by first | exact kc_one _ | exact kcf_one _ | (simp [Value.oneCell']; done)) ?_
    intro W hW
    refine l_val (r_assign (v := .int _ _) rfl rfl) rfl rfl ?_
    refine l_end ?_
    refine n_then ?_
    refine c_ret ?_
    refine r_then ?_
    refine ret_cell_tmp hW 0 tyA52 rfl rfl rfl (by first | rfl | exact kc_len _ | exact kcf_len _ | (simp; done)) rfl ?_
    have e := hear_8 (x := x) (chk_not hc1)
    exact ⟨_, [], rfl, ⟨.agg (huC noHunt Sl.no Sl.no Sl.no).toArray, by rw [e]; exact congrArg (fun z => Value.tuple #[_, .int .i64 z]) (chkH_no (chk_not hc1)), by rw [e]; exact ⟨_, _, _, _, rfl, no_newHu⟩⟩, hW.sub (List.nil_sublist _)⟩
  · intro hc1
    replace hc1 := of_decide_eq_false hc1
    refine l_end ?_
    refine n_then ?_
    refine c_false rfl ?_
    refine c_skip ?_
    refine n_then ?_
    refine c_seq ?_
    refine c_seq ?_
    refine c_reg ?_
    refine l_val (r_move (v := .int _ _) rfl rfl) rfl rfl ?_
    refine l_val (r_lss (b := true) rfl rfl rfl (decide_eq_true hx)) rfl rfl ?_
    refine l_val (r_move (v := .bool _) rfl rfl) rfl rfl ?_
    refine l_not (by kernel_rfl) rfl ?_
    refine l_not (by kernel_rfl) rfl ?_
    refine l_not (by kernel_rfl) rfl ?_
    refine l_not (by kernel_rfl) rfl ?_
    refine l_val (r_pick (v := .bool _) rfl rfl rfl) rfl rfl ?_
    refine l_end ?_
    refine n_then ?_
    refine c_true rfl ?_
    refine c_seq ?_
    refine c_reg ?_
    refine l_val (r_build (ps := []) (bld52_) rfl rfl) rfl rfl ?_
    refine l_storeA hW 0 tyA52 rfl rfl rfl rfl rfl rfl (by first | rfl | exact kc_len _ | exact kcf_len _ | (simp; done)) (by first | rfl | exact kc_len _ | exact kcf_len _ | (simp; done)) (by first | exact kc_one _ | exact kcf_one _ | (simp [Value.oneCell']; done)) ?_
    intro W hW
    refine l_val (r_assign (v := .int _ _) rfl rfl) rfl rfl ?_
    refine l_end ?_
    refine n_then ?_
    refine c_ret ?_
    refine r_then ?_
    refine ret_cell_tmp hW 0 tyA52 rfl rfl rfl (by first | rfl | exact kc_len _ | exact kcf_len _ | (simp; done)) rfl ?_
    have e := hear_80 (x := x) ((valid_iff h).2 (chk_valid (by omega))) (.inl hx)
    exact ⟨_, [], rfl, ⟨.agg (huC noHunt Sl.no Sl.no Sl.no).toArray, by rw [e]; rfl, by rw [e]; exact ⟨_, _, _, _, rfl, no_newHu⟩⟩, hW.sub (List.nil_sublist _)⟩

theorem g_Hear (h : Hu) (pa : Option Addr) (pn pc : Nat) (r q : Sl) (ss : List Sl) (x : Int) (hsm : Small h) (hfit : pn * 48 ≤ 140737488351232) : GivesX Try.prog 23 [.agg [.int .i64 h.users, .slice pa pn pc, .slice r.a r.n r.c, .slice q.a q.n q.c, .int .i64 h.rounds].toArray, .int .i64 x].toArray (fun w => RdHu w h ⟨pa, pn, pc⟩ r q ss) (fun v Bs => ∃ a, v = .tuple #[a, .int .i64 ((hear h x).2 : Int)] ∧ huX (hear h x).1 a Bs) := by
  by_cases hx : x < 0
  · exact g_HearM h pa pn pc r q ss x hx hsm hfit
  · obtain ⟨n, rfl⟩ : ∃ n : Nat, x = n := ⟨x.toNat, by omega⟩
    exact g_HearN h pa pn pc r q ss n hsm hfit
theorem g_rHear (h : Hu) (pa : Option Addr) (pn pc : Nat) (r q : Sl) (ss : List Sl) (x : Int) (hsm : Small h) (hfit : pn * 48 ≤ 140737488351232) : GivesX Try.prog 24 [.agg [.int .i64 h.users, .slice pa pn pc, .slice r.a r.n r.c, .slice q.a q.n q.c, .int .i64 h.rounds].toArray, .int .i64 x].toArray (fun w => RdHu w h ⟨pa, pn, pc⟩ r q ss) (fun v Bs => ∃ a, v = .tuple #[a, .int .i64 ((hear h x).2 : Int)] ∧ huX (hear h x).1 a Bs) := by
  by_cases hx : x < 0
  · exact g_rHearM h pa pn pc r q ss x hx hsm hfit
  · obtain ⟨n, rfl⟩ : ∃ n : Nat, x = n := ⟨x.toNat, by omega⟩
    exact g_rHearN h pa pn pc r q ss n hsm hfit
end Go.Proofs.Ytoegpalacppllaa

/- Writing into all of a hunt in new memory; hunts that are heard are small. No function of the program is in sight here. -/
namespace Go.Proofs.Ytoegpalacppllaa
open Go.RowKit Pl Tr Hn

/-- blocks of the same places and sizes -/
def Shp (B B' : List Blk) : Prop := B'.map (fun b => (b.id, b.cs.length, b.ty)) = B.map (fun b => (b.id, b.cs.length, b.ty))
theorem Shp.refl (B : List Blk) : Shp B B := rfl
theorem Shp.set {B B' : List Blk} {k : Nat} {y : Blk} {cs : List Value} (h : Shp B B') (hk : B'[k]? = some y) (hl : cs.length = y.cs.length) : Shp B (B'.set k ⟨y.id, cs, y.ty⟩) := by
  unfold Shp at h ⊢
  rw [← h, List.map_set]
  simp only [hl]
  apply List.ext_getElem?
  intro i
  rw [List.getElem?_set, List.length_map]
  by_cases hi : k = i
  · subst hi
    obtain ⟨hlt, hk⟩ := List.getElem?_eq_some_iff.1 hk
    subst hk
    simp [hlt]
  · rw [if_neg hi]
theorem Sl.In.shp {s : Sl} {B B' : List Blk} (h : s.In B) (hs : Shp B B') (hn : 0 < s.n) : ∃ (k : Nat) (y : Blk) (i : Nat), B'[k]? = some y ∧ s.a = some ⟨y.id, i, none⟩ ∧ i + s.n ≤ y.cs.length := by
  rcases h with h | ⟨x, hx, i, ha, hl⟩
  · omega
  · obtain ⟨k, hk⟩ := List.getElem?_of_mem hx
    have := congrArg (fun l => l[k]?) hs
    simp only [List.getElem?_map, hk, Option.map_some] at this
    cases hy : B'[k]? with
    | none => rw [hy] at this; cases this
    | some y =>
      rw [hy] at this
      simp only [Option.map_some, Option.some.injEq, Prod.mk.injEq] at this
      exact ⟨k, y, i, hy, by rw [this.1]; exact ha, by rw [this.2.1]; exact hl⟩
theorem NewHu.mem {h : Hu} {p r q : Sl} {ss : List Sl} {Bs : List Blk} (n : NewHu h p r q ss Bs) {i : Nat} {s : Sl} (hs : (r :: q :: ss)[i]? = some s) : s.In Bs := by
  have := List.mem_of_getElem? hs
  simp only [List.mem_cons] at this
  rcases this with rfl | rfl | hm
  · exact n.rest
  · exact n.named
  · exact n.ps s hm
section
variable {P : Program} {ops : Array Oper} {Q : Exit → Act → World → Prop} {bs : List Value} {us : List (Nat × Value)} {ds : List Deferred} {w0 : Base} {W : World} {rest : List Oper} {o : Oper} {L B : List Blk} {d : Nat} {v : Value} {r : Option (Option Nat)} {m : Nat}
theorem l_storeIn (hW : Cl w0 (L ++ B) W) {t : TypeId} (ht : TyC P t) {x y : Operand} {k i : Nat} {b : Blk} (hk : B[k]? = some b) (hg : o.guard = none) (ho : o.op = .store t x y) (hx : ev bs us x = .pointer (some ⟨b.id, i, none⟩)) (hy : ev bs us y = v) (hd : o.dst = none) (hi : i < b.cs.length) (h1 : v.oneCell' = true)
    (h : ∀ W', Cl w0 (L ++ B.set k ⟨b.id, b.cs.set i v, b.ty⟩) W' → LW r m P ops Q rest (fr bs us ds) W') : LW r m P ops Q (o :: rest) (fr bs us ds) W := by
  refine l_storeC hW (L.length + k) ht hg ho hx hy hd (g := b.id) (cs := b.cs) (ty := b.ty) (by rw [List.getElem?_append_right (Nat.le_add_right _ _), Nat.add_sub_cancel_left]; exact hk) hi h1 fun W' hW' => h W' ?_
  rw [List.set_append_right _ _ (Nat.le_add_right _ _), Nat.add_sub_cancel_left] at hW'
  exact hW'
end
theorem RdHu.ns {w : World} {h : Hu} {p r n : Sl} {ss : List Sl} {N : Nat} (k : RdHu w h p r n ss) (hl : ∀ l ∈ groups h, l.length ≤ N) : ∀ (i : Nat) s, (r :: n :: ss)[i]? = some s → s.n ≤ N := fun i s hs => by
  match i with
  | 0 =>
    simp only [List.getElem?_cons_zero, Option.some.injEq] at hs
    subst hs
    rw [k.rest.len]; exact hl _ (by simp [groups])
  | 1 =>
    simp only [List.getElem?_cons_succ, List.getElem?_cons_zero, Option.some.injEq] at hs
    subst hs
    rw [k.named.len]; exact hl _ (by simp [groups])
  | i + 2 =>
    simp only [List.getElem?_cons_succ] at hs
    have hlt := (List.getElem?_eq_some_iff.1 hs).1
    have hlt2 : i < h.ps.length := by have := k.len; omega
    have h1 : h.ps[i]? = some h.ps[i] := List.getElem?_eq_getElem hlt2
    rw [(k.es i s _ hs h1).len]; exact hl _ (by simp [groups])
theorem permL {α : Type} {P T B : List α} {g : α} : (P ++ ((T ++ B) ++ [g])).Perm ((P ++ [g]) ++ (T ++ B)) := by
  classical exact List.perm_iff_count.2 fun x => by simp only [List.count_append]; omega
theorem subL {α : Type} {P T B A1 A2 A3 A4 A5 : List α} {g : α} : (P ++ ((T ++ B) ++ [g])).Sublist (P ++ ((((((((T ++ A1) ++ A2) ++ A3) ++ A4) ++ B) ++ A5)) ++ [g])) :=
  (List.Sublist.refl P).append ((((((List.sublist_append_left T A1).trans (List.sublist_append_left _ A2)).trans (List.sublist_append_left _ A3)).trans (List.sublist_append_left _ A4)).append (List.Sublist.refl B)).trans (List.sublist_append_left _ A5) |>.append (List.Sublist.refl [g]))
theorem hear_cases {h : Hu} {x : Int} (he : h.ps.length % 2 = 0) : (hear h x).1 = noHunt ∨ Valid (hear h x).1 := by
  unfold hear
  split
  · exact .inl rfl
  · rename_i hv
    have v := (valid_iff h).1 (by simpa using hv)
    split
    · exact .inl rfl
    · rename_i hx
      split
      · exact .inl rfl
      · rename_i hr
        refine .inr ?_
        have hr2 := v.r2
        have h1 : ¬ (x < 0) ∧ ¬ ((h.ps.length : Int) < x) ∧ ¬ (x = 0 ∧ h.rest = []) := ⟨fun h => hx (.inl h), fun h => hx (.inr (.inl h)), fun h => hx (.inr (.inr h))⟩
        obtain ⟨n, rfl⟩ : ∃ n : Nat, x = n := ⟨x.toNat, by omega⟩
        show Valid (heard h (n : Int).toNat)
        rw [Int.toNat_natCast]
        by_cases hn : n = 0
        · subst hn
          exact v.heard0 he (by omega) fun e => h1.2.2 ⟨rfl, e⟩
        · exact v.heardP (by omega) hn rfl (part_of (by omega))
theorem valid_len {h : Hu} (v : Valid h) : ∀ l ∈ groups h, l.length ≤ 64 := fun l hl => by
  have h1 : ∀ gs : List LI, l ∈ gs → l.length ≤ sumL gs := by
    intro gs
    induction gs with
    | nil => intro h; cases h
    | cons g gs ih =>
      intro hm
      rcases List.mem_cons.1 hm with rfl | hm
      · simp [sumL]
      · have := ih hm; simp only [sumL]; omega
  have := h1 _ hl
  have := v.sum
  have := v.u2
  omega
theorem hear_len {h : Hu} {x : Int} (he : h.ps.length % 2 = 0) : (∀ l ∈ groups (hear h x).1, l.length ≤ 4294967296) ∧ (hear h x).1.ps.length ≤ 128 := by
  rcases hear_cases (x := x) he with e | v
  · rw [e]
    exact ⟨by simp [groups, noHunt], by simp [noHunt]⟩
  · exact ⟨fun l hl => by have := valid_len v l hl; omega, v.p⟩
theorem vars_fit (h : Hu) : (varsR h).length ≤ 4294967296 := by
  cases hv : validB h with
  | false => rw [varsR_no hv]; simp
  | true =>
    have := ((valid_iff h).1 hv).u2
    rw [varsR_yes hv, vars_len]; omega
theorem new_len (u : Int) : (∀ l ∈ groups (newH u), l.length ≤ 4294967296) ∧ (newH u).ps.length ≤ 128 := by
  unfold newH
  split
  · exact ⟨by simp [groups, len_rangeI]; omega, by simp⟩
  · exact ⟨by simp [groups, noHunt], by simp [noHunt]⟩
end Go.Proofs.Ytoegpalacppllaa

/- The law of hunts. -/
namespace Go.Proofs.Ytoegpalacppllaa
open Go.RowKit Pl
open Tr Hn
set_option maxRecDepth 10000 in
/-- headend/headendlaw08.TraceHunts -/
theorem g_TraceHunts (h : Hu) (pa : Option Addr) (pn pc : Nat) (r q : Sl) (ss : List Sl) (u x : Int) (hfit : pn * 48 ≤ 140737488351232) (hlen : ∀ l ∈ groups h, l.length ≤ 17592186043904) : GivesR Try.prog 5 [.agg [.int .i64 h.users, .slice pa pn pc, .slice r.a r.n r.c, .slice q.a q.n q.c, .int .i64 h.rounds].toArray, .int .i64 u, .int .i64 x].toArray (fun w => RdHu w h ⟨pa, pn, pc⟩ r q ss) (.bool true) := by
  refine givesR_of Try.func5 rfl (bs := [.agg [.int .i64 h.users, .slice pa pn pc, .slice r.a r.n r.c, .slice q.a q.n q.c, .int .i64 h.rounds].toArray, .int .i64 u, .int .i64 x, undef, undef, undef, undef, undef, undef, undef, undef, undef, undef, undef, undef, undef, undef, undef, undef, undef, undef, undef, undef, undef, undef, undef, undef, undef, undef, undef, undef, undef, undef, undef, undef, undef, undef, undef, undef, undef, undef, undef, undef, undef, undef, undef, undef, undef, undef, undef, undef, undef, undef, undef, undef, undef, undef, undef, undef, undef, undef, undef, undef, undef, undef, undef, undef, undef, undef, undef, undef, undef, undef, undef, undef, undef, undef, undef, undef, undef, undef, undef, undef, undef, undef, undef, undef, undef, undef, undef, undef, undef, undef, undef, undef, undef, undef, undef, undef, undef, undef, undef, undef, undef, undef, undef, undef, undef, undef, undef, undef, undef, undef, undef, undef, undef, undef, undef]) rfl ?_
  intro w hP hW
  refine c_seq ?_
  refine c_reg ?_
  refine l_box hW rfl rfl rfl rfl ?_
  intro g1 W hW
  refine l_val (r_assign (v := .bool _) rfl rfl) rfl rfl ?_
  refine l_end ?_
  refine n_then ?_
  refine c_seq ?_
  refine c_seq ?_
  refine c_reg ?_
  refine l_loadA hW 0 tyA52 rfl rfl rfl rfl rfl (by first | rfl | exact kc_len _ | exact kcf_len _ | (simp; done)) ?_
  refine l_callR hW (g_GreatHunt h pa pn pc r q ss hfit hlen) en17 (hP.past hW.below) rfl rfl rfl rfl ?_
  intro W hW
  refine l_split ?_ ?_
  · intro hc1
    refine l_end ?_
    refine n_then ?_
    refine c_true rfl ?_
    refine c_seq ?_
    refine c_reg ?_
    refine l_val (r_assign (v := .bool _) rfl rfl) rfl rfl ?_
    refine l_end ?_
    refine n_then ?_
    refine c_ret ?_
    refine r_then ?_
    refine ret_tmp (v := .bool true) rfl ?_ ⟨rfl, hW.below⟩
    rfl
  · intro hc1
    have hsm := small_of hc1
    have hone := hsm.one
    have hpp := hP.pn
    have hpl := hP.len
    simp only at hpp
    have hev : h.ps.length % 2 = 0 := by omega
    have hL8 := hear_len (h := h) (x := x) hev
    have hL4 := new_len u
    refine l_end ?_
    refine n_then ?_
    refine c_false rfl ?_
    refine c_skip ?_
    refine n_then ?_
    refine c_seq ?_
    refine c_reg ?_
    refine l_loadA hW 0 tyA52 rfl rfl rfl rfl rfl (by first | rfl | exact kc_len _ | exact kcf_len _ | (simp; done)) ?_
    refine l_callX hW (g_TwinHunt h pa pn pc r q ss hsm hfit) en18 (hP.past hW.below) rfl rfl rfl rfl ?_
    rintro _ _ W ⟨pT, rT, qT, ssT, RT, MT, rfl, hO, rfl⟩ hW
    refine l_alloc hW tyZ52 rfl rfl rfl ?_
    intro g2 W hW
    refine l_storeA hW 0 tyA52 rfl rfl rfl rfl rfl rfl (by first | rfl | exact kc_len _ | exact kcf_len _ | (simp; done)) (by first | rfl | exact kc_len _ | exact kcf_len _ | (simp; done)) (by first | exact kc_one _ | exact kcf_one _ | (simp [Value.oneCell']; done)) ?_
    intro W hW
    refine l_end ?_
    obtain ⟨BT, hBT⟩ : ∃ B, B = MT ++ RT := ⟨_, rfl⟩
    have nT : NewHu h pT rT qT ssT BT := by rw [hBT]; exact hO.newHu (List.sublist_append_left _ _) (List.sublist_append_right _ _)
    rw [← hBT] at hW
    have hfT : pT.n * 48 ≤ 140737488351232 := by have h1 := (nT.rep.at hW (List.sublist_append_right [_, _] _)).pn; have h2 := (nT.rep.at hW (List.sublist_append_right [_, _] _)).len; have h3 := hsm.ps; omega
    refine n_then ?_
    refine c_seq ?_
    refine c_reg ?_
    refine l_val (r_move (v := .int _ _) rfl rfl) rfl rfl ?_
    refine l_callX hW (g_NewHunt u) en19 trivial rfl rfl rfl rfl ?_
    rintro _ B4 W ⟨_, rfl, p4, r4, q4, ss4, rfl, n4⟩ hW
    refine l_val (r_move (v := .tuple _) rfl rfl) rfl rfl ?_
    refine l_val (r_extract (v := .agg _) rfl rfl rfl) rfl rfl ?_
    refine l_val (r_extract (v := .int _ _) rfl rfl rfl) rfl rfl ?_
    refine l_alloc hW tyZ52 rfl rfl rfl ?_
    intro g3 W hW
    refine l_storeA hW 0 tyA52 rfl rfl rfl rfl rfl rfl (by first | rfl | exact kc_len _ | exact kcf_len _ | (simp; done)) (by first | rfl | exact kc_len _ | exact kcf_len _ | (simp; done)) (by first | exact kc_one _ | exact kcf_one _ | (simp [Value.oneCell']; done)) ?_
    intro W hW
    refine l_val (r_assign (v := .int _ _) rfl rfl) rfl rfl ?_
    refine l_end ?_
    refine n_then ?_
    refine c_seq ?_
    refine c_reg ?_
    refine l_val (r_move (v := .int _ _) rfl rfl) rfl rfl ?_
    refine l_callX hW (g_rNewHunt u) en20 trivial rfl rfl rfl rfl ?_
    rintro _ B5 W ⟨_, rfl, p5, r5, q5, ss5, rfl, n5⟩ hW
    refine l_val (r_move (v := .tuple _) rfl rfl) rfl rfl ?_
    refine l_val (r_extract (v := .agg _) rfl rfl rfl) rfl rfl ?_
    refine l_val (r_extract (v := .int _ _) rfl rfl rfl) rfl rfl ?_
    refine l_alloc hW tyZ52 rfl rfl rfl ?_
    intro g4 W hW
    refine l_storeA hW 0 tyA52 rfl rfl rfl rfl rfl rfl (by first | rfl | exact kc_len _ | exact kcf_len _ | (simp; done)) (by first | rfl | exact kc_len _ | exact kcf_len _ | (simp; done)) (by first | exact kc_one _ | exact kcf_one _ | (simp [Value.oneCell']; done)) ?_
    intro W hW
    refine l_val (r_assign (v := .int _ _) rfl rfl) rfl rfl ?_
    refine l_end ?_
    refine n_then ?_
    refine c_seq ?_
    refine c_reg ?_
    refine l_loadA hW 2 tyA52 rfl rfl rfl rfl rfl (by first | rfl | exact kc_len _ | exact kcf_len _ | (simp; done)) ?_
    refine l_callX hW (g_Variants h pT.a pT.n pT.c rT qT ssT hsm hfT) en21 (nT.rep.at hW (((List.sublist_append_left BT _).trans (List.sublist_append_left _ B5)).trans (List.sublist_append_right [_, _, _, _] _))) rfl rfl rfl rfl ?_
    rintro _ B6 W ⟨s6, rfl, n6⟩ hW
    refine l_val (r_move (v := .tuple _) rfl rfl) rfl rfl ?_
    refine l_val (r_extract (v := .slice _ _ _) rfl rfl rfl) rfl rfl ?_
    refine l_val (r_extract (v := .int _ _) rfl rfl rfl) rfl rfl ?_
    refine l_val (r_assign (v := .slice _ _ _) rfl rfl) rfl rfl ?_
    refine l_val (r_assign (v := .int _ _) rfl rfl) rfl rfl ?_
    refine l_end ?_
    refine n_then ?_
    refine c_seq ?_
    refine c_reg ?_
    refine l_loadA hW 3 tyA52 rfl rfl rfl rfl rfl (by first | rfl | exact kc_len _ | exact kcf_len _ | (simp; done)) ?_
    refine l_callX hW (g_rVariants h pa pn pc r q ss hsm hfit) en22 (hP.past hW.below) rfl rfl rfl rfl ?_
    rintro _ B7 W ⟨s7, rfl, n7⟩ hW
    refine l_val (r_move (v := .tuple _) rfl rfl) rfl rfl ?_
    refine l_val (r_extract (v := .slice _ _ _) rfl rfl rfl) rfl rfl ?_
    refine l_val (r_extract (v := .int _ _) rfl rfl rfl) rfl rfl ?_
    refine l_val (r_assign (v := .slice _ _ _) rfl rfl) rfl rfl ?_
    refine l_val (r_assign (v := .int _ _) rfl rfl) rfl rfl ?_
    refine l_end ?_
    refine n_then ?_
    refine c_seq ?_
    refine c_reg ?_
    refine l_loadA hW 2 tyA52 rfl rfl rfl rfl rfl (by first | rfl | exact kc_len _ | exact kcf_len _ | (simp; done)) ?_
    refine l_val (r_move (v := .int _ _) rfl rfl) rfl rfl ?_
    refine l_callX hW (g_Hear h pT.a pT.n pT.c rT qT ssT x hsm hfT) en23 (nT.rep.at hW (((((List.sublist_append_left BT _).trans (List.sublist_append_left _ B5)).trans (List.sublist_append_left _ B6)).trans (List.sublist_append_left _ B7)).trans (List.sublist_append_right [_, _, _, _] _))) rfl rfl rfl rfl ?_
    rintro _ B8 W ⟨_, rfl, p8, r8, q8, ss8, rfl, n8⟩ hW
    refine l_val (r_move (v := .tuple _) rfl rfl) rfl rfl ?_
    refine l_val (r_extract (v := .agg _) rfl rfl rfl) rfl rfl ?_
    refine l_val (r_extract (v := .int _ _) rfl rfl rfl) rfl rfl ?_
    refine l_alloc hW tyZ52 rfl rfl rfl ?_
    intro g5 W hW
    refine l_storeA hW 0 tyA52 rfl rfl rfl rfl rfl rfl (by first | rfl | exact kc_len _ | exact kcf_len _ | (simp; done)) (by first | rfl | exact kc_len _ | exact kcf_len _ | (simp; done)) (by first | exact kc_one _ | exact kcf_one _ | (simp [Value.oneCell']; done)) ?_
    intro W hW
    refine l_val (r_assign (v := .int _ _) rfl rfl) rfl rfl ?_
    refine l_end ?_
    refine n_then ?_
    refine c_seq ?_
    refine c_reg ?_
    refine l_loadA hW 4 tyA52 rfl rfl rfl rfl rfl (by first | rfl | exact kc_len _ | exact kcf_len _ | (simp; done)) ?_
    refine l_val (r_move (v := .int _ _) rfl rfl) rfl rfl ?_
    refine l_callX hW (g_rHear h pa pn pc r q ss x hsm hfit) en24 (hP.past hW.below) rfl rfl rfl rfl ?_
    rintro _ B9 W ⟨_, rfl, p9, r9, q9, ss9, rfl, n9⟩ hW
    refine l_val (r_move (v := .tuple _) rfl rfl) rfl rfl ?_
    refine l_val (r_extract (v := .agg _) rfl rfl rfl) rfl rfl ?_
    refine l_val (r_extract (v := .int _ _) rfl rfl rfl) rfl rfl ?_
    refine l_alloc hW tyZ52 rfl rfl rfl ?_
    intro g6 W hW
    refine l_storeA hW 0 tyA52 rfl rfl rfl rfl rfl rfl (by first | rfl | exact kc_len _ | exact kcf_len _ | (simp; done)) (by first | rfl | exact kc_len _ | exact kcf_len _ | (simp; done)) (by first | exact kc_one _ | exact kcf_one _ | (simp [Value.oneCell']; done)) ?_
    intro W hW
    refine l_val (r_assign (v := .int _ _) rfl rfl) rfl rfl ?_
    refine l_end ?_
    have hp8 := (n8.rep.at hW (((List.sublist_append_right _ B8).trans (List.sublist_append_left _ B9)).trans (List.sublist_append_right [_, _, _, _, _, _] _))).pn
    have hs8 := (n8.rep.at hW (((List.sublist_append_right _ B8).trans (List.sublist_append_left _ B9)).trans (List.sublist_append_right [_, _, _, _, _, _] _))).len
    have hb8 := hL8.2
    have hns8 := (n8.rep.at hW (((List.sublist_append_right _ B8).trans (List.sublist_append_left _ B9)).trans (List.sublist_append_right [_, _, _, _, _, _] _))).ns hL8.1
    refine n_then ?_
    refine c_seq ?_
    refine c_regY hW [] [.q, .q, .q, .q, .q, .q, .q, .q, .q, .q, .q, .q, .q, .q, .q, .q, .q, .q, .q, .q, .q, .q, .q, .q, .q, .q, .q, .q, .q, .q, .q, .q, .q, .q, .q, .q] [0, 0, 3, 7, 15, 15, 63, 127, 255, 511, 511, 2047, 4095, 8191, 16383, 16383, 65535, 131071, 262143, 524287, 524287, 2097151, 4194303, 8388607, 16777215, 16777215, 67108863, 134217727, 268435455, 536870911, 1073741823, 536870911, 4294967295, 8589934591, 17179869183, 34359738367] (by kernel_rfl) (by kernel_rfl) ?_
    refine y_loadA 3 tyA52 rfl rfl rfl rfl rfl (by first | rfl | exact kc_len _ | exact kcf_len _ | (simp; done)) (by decide) ?_
    refine y_loadA 2 tyA52 rfl rfl rfl rfl rfl (by first | rfl | exact kc_len _ | exact kcf_len _ | (simp; done)) (by decide) ?_
    refine y_callR (g_SameHunt (newH u) p4.a p4.n p4.c r4 q4 ss4 p5.a p5.n p5.c r5 q5 ss5 (by have h1 := (n4.rep.at hW (((((((List.sublist_append_right _ B4).trans (List.sublist_append_left _ B5)).trans (List.sublist_append_left _ B6)).trans (List.sublist_append_left _ B7)).trans (List.sublist_append_left _ B8)).trans (List.sublist_append_left _ B9)).trans (List.sublist_append_right [_, _, _, _, _, _] _))).pn; have h2 := (n4.rep.at hW (((((((List.sublist_append_right _ B4).trans (List.sublist_append_left _ B5)).trans (List.sublist_append_left _ B6)).trans (List.sublist_append_left _ B7)).trans (List.sublist_append_left _ B8)).trans (List.sublist_append_left _ B9)).trans (List.sublist_append_right [_, _, _, _, _, _] _))).len; have h3 := hL4.2; omega) (by have h1 := (n5.rep.at hW ((((((List.sublist_append_right _ B5).trans (List.sublist_append_left _ B6)).trans (List.sublist_append_left _ B7)).trans (List.sublist_append_left _ B8)).trans (List.sublist_append_left _ B9)).trans (List.sublist_append_right [_, _, _, _, _, _] _))).pn; have h2 := (n5.rep.at hW ((((((List.sublist_append_right _ B5).trans (List.sublist_append_left _ B6)).trans (List.sublist_append_left _ B7)).trans (List.sublist_append_left _ B8)).trans (List.sublist_append_left _ B9)).trans (List.sublist_append_right [_, _, _, _, _, _] _))).len; have h3 := hL4.2; omega) hL4.1) en25 (fun L2 w hs hC => ⟨n4.rep.at hC ((((((((List.sublist_append_right _ B4).trans (List.sublist_append_left _ B5)).trans (List.sublist_append_left _ B6)).trans (List.sublist_append_left _ B7)).trans (List.sublist_append_left _ B8)).trans (List.sublist_append_left _ B9)).trans (List.sublist_append_right [_, _, _, _, _, _] _)).trans hs.pre), n5.rep.at hC (((((((List.sublist_append_right _ B5).trans (List.sublist_append_left _ B6)).trans (List.sublist_append_left _ B7)).trans (List.sublist_append_left _ B8)).trans (List.sublist_append_left _ B9)).trans (List.sublist_append_right [_, _, _, _, _, _] _)).trans hs.pre)⟩) (by kernel_rfl) rfl rfl rfl ?_
    refine y_val (r_move (v := .bool _) rfl rfl) rfl rfl ?_
    refine y_val (r_move (v := .int _ _) rfl rfl) (by kernel_rfl) rfl ?_
    refine y_val (r_move (v := .int _ _) rfl rfl) (by kernel_rfl) rfl ?_
    refine y_val (r_eql (b := true) rfl rfl rfl (decide_eq_true rfl)) (by kernel_rfl) rfl ?_
    refine y_val (r_pick (v := .bool _) rfl rfl rfl) rfl rfl ?_
    refine y_val (r_move (v := .bool _) rfl rfl) rfl rfl ?_
    refine y_val (r_move (v := .slice _ _ _) rfl rfl) (by kernel_rfl) rfl ?_
    refine y_val (r_move (v := .slice _ _ _) rfl rfl) (by kernel_rfl) rfl ?_
    refine y_callR (GivesR.cast (g_SameInts s6.a s6.n s6.c (varsR h) s7.a s7.n s7.c (varsR h) (vars_fit h)) (congrArg Value.bool (decide_eq_true rfl))) en26 (fun L2 w hs hC => ⟨n6.rep.at hC ((((((List.sublist_append_right _ B6).trans (List.sublist_append_left _ B7)).trans (List.sublist_append_left _ B8)).trans (List.sublist_append_left _ B9)).trans (List.sublist_append_right [_, _, _, _, _, _] _)).trans hs.pre), n7.rep.at hC (((((List.sublist_append_right _ B7).trans (List.sublist_append_left _ B8)).trans (List.sublist_append_left _ B9)).trans (List.sublist_append_right [_, _, _, _, _, _] _)).trans hs.pre)⟩) (by kernel_rfl) rfl rfl rfl ?_
    refine y_val (r_pick (v := .bool _) rfl rfl rfl) rfl rfl ?_
    refine y_val (r_move (v := .bool _) rfl rfl) rfl rfl ?_
    refine y_val (r_move (v := .int _ _) rfl rfl) (by kernel_rfl) rfl ?_
    refine y_val (r_move (v := .int _ _) rfl rfl) (by kernel_rfl) rfl ?_
    refine y_val (r_eql (b := true) rfl rfl rfl (decide_eq_true rfl)) (by kernel_rfl) rfl ?_
    refine y_val (r_pick (v := .bool _) rfl rfl rfl) rfl rfl ?_
    refine y_val (r_move (v := .bool _) rfl rfl) rfl rfl ?_
    refine y_loadA 1 tyA52 (by kernel_rfl) rfl rfl rfl rfl (by first | rfl | exact kc_len _ | exact kcf_len _ | (simp; done)) (by decide) ?_
    refine y_loadA 0 tyA52 (by kernel_rfl) rfl rfl rfl rfl (by first | rfl | exact kc_len _ | exact kcf_len _ | (simp; done)) (by decide) ?_
    refine y_callR (g_SameHunt (hear h x).1 p8.a p8.n p8.c r8 q8 ss8 p9.a p9.n p9.c r9 q9 ss9 (by have h1 := (n8.rep.at hW (((List.sublist_append_right _ B8).trans (List.sublist_append_left _ B9)).trans (List.sublist_append_right [_, _, _, _, _, _] _))).pn; have h2 := (n8.rep.at hW (((List.sublist_append_right _ B8).trans (List.sublist_append_left _ B9)).trans (List.sublist_append_right [_, _, _, _, _, _] _))).len; have h3 := hL8.2; omega) (by have h1 := (n9.rep.at hW ((List.sublist_append_right _ B9).trans (List.sublist_append_right [_, _, _, _, _, _] _))).pn; have h2 := (n9.rep.at hW ((List.sublist_append_right _ B9).trans (List.sublist_append_right [_, _, _, _, _, _] _))).len; have h3 := hL8.2; omega) hL8.1) en25 (fun L2 w hs hC => ⟨n8.rep.at hC ((((List.sublist_append_right _ B8).trans (List.sublist_append_left _ B9)).trans (List.sublist_append_right [_, _, _, _, _, _] _)).trans hs.pre), n9.rep.at hC (((List.sublist_append_right _ B9).trans (List.sublist_append_right [_, _, _, _, _, _] _)).trans hs.pre)⟩) (by kernel_rfl) rfl rfl rfl ?_
    refine y_val (r_pick (v := .bool _) rfl rfl rfl) rfl rfl ?_
    refine y_val (r_move (v := .bool _) rfl rfl) rfl rfl ?_
    refine y_val (r_move (v := .int _ _) rfl rfl) (by kernel_rfl) rfl ?_
    refine y_val (r_move (v := .int _ _) rfl rfl) (by kernel_rfl) rfl ?_
    refine y_val (r_eqlN (b := true) rfl rfl rfl (decide_eq_true rfl)) (by kernel_rfl) rfl ?_
    refine y_val (r_pick (v := .bool _) rfl rfl rfl) rfl rfl ?_
    refine y_val (r_move (v := .bool _) rfl rfl) rfl rfl ?_
    refine y_loadA 4 tyA52 (by kernel_rfl) rfl rfl rfl rfl (by first | rfl | exact kc_len _ | exact kcf_len _ | (simp; done)) (by decide) ?_
    refine y_callR (g_CheckHunt h pT.a pT.n pT.c rT qT ssT hsm hfT) en27 (fun L2 w hs hC => nT.rep.at hC ((((((((List.sublist_append_left BT _).trans (List.sublist_append_left _ B5)).trans (List.sublist_append_left _ B6)).trans (List.sublist_append_left _ B7)).trans (List.sublist_append_left _ B8)).trans (List.sublist_append_left _ B9)).trans (List.sublist_append_right [_, _, _, _, _, _] _)).trans hs.pre)) (by kernel_rfl) rfl rfl rfl ?_
    refine y_loadA 5 tyA52 (by kernel_rfl) rfl rfl rfl rfl (by first | rfl | exact kc_len _ | exact kcf_len _ | (simp; done)) (by decide) ?_
    refine y_callR (g_rCheckHunt h pa pn pc r q ss hsm hfit) en28 (fun L2 w hs hC => hP.past hC.below) (by kernel_rfl) rfl rfl rfl ?_
    refine y_val (r_eql (b := true) rfl rfl rfl (decide_eq_true rfl)) (by kernel_rfl) rfl ?_
    refine y_val (r_pick (v := .bool _) rfl rfl rfl) rfl rfl ?_
    refine y_val (r_assign (v := .bool _) rfl rfl) rfl rfl ?_
    refine y_end ?_
    intro W hW
    refine n_then ?_
    refine c_seq ?_
    refine c_seq ?_
    refine c_reg ?_
    refine l_loadA hW 1 tyA52 rfl rfl rfl rfl rfl (by first | rfl | exact kc_len _ | exact kcf_len _ | (simp; done)) ?_
    refine l_callX hW (g_Groups (hear h x).1 p8.a p8.n p8.c r8 q8 ss8 (by omega)) en29 (n8.rep.at hW (((List.sublist_append_right _ B8).trans (List.sublist_append_left _ B9)).trans (List.sublist_append_right [_, _, _, _, _, _] _))) rfl rfl rfl rfl ?_
    rintro _ BG W ⟨a1, c1, rfl, hG⟩ hW
    obtain ⟨gq, cur, rfl, rfl, -, -, htk⟩ := hG.row (by omega)
    have hcv : ∀ i (s : Sl), (r8 :: q8 :: ss8)[i]? = some s → cur[i]? = some s.v := fun i s hs => take_get htk (by
      have := congrArg (Option.map Sl.v) hs
      rw [← List.getElem?_map] at this
      exact this)
    replace hW := (Cl.sub (L' := [_, _, _, _, _, _] ++ ((BT ++ B8) ++ [⟨gq, cur, _⟩])) hW subL).perm permL
    refine l_val (r_lenSlice Try.underlying69 rfl rfl) rfl rfl ?_
    refine l_val (r_move (v := .int _ _) rfl rfl) rfl rfl ?_
    refine l_end ?_
    refine n_then ?_
    refine c_block ?_
    refine c_loop (fun (o : Nat × List Blk) (j : Nat → Value) => [.agg [.int .i64 h.users, .slice pa pn pc, .slice r.a r.n r.c, .slice q.a q.n q.c, .int .i64 h.rounds].toArray, .int .i64 u, .int .i64 x, .pointer (some ⟨g1, 0, none⟩), j 4, j 5, .bool false, .pointer (some ⟨g2, 0, none⟩), .pointer (some ⟨g3, 0, none⟩), .int .i64 (newE u), .pointer (some ⟨g4, 0, none⟩), .int .i64 (newE u), .slice s6.a s6.n s6.c, .int .i64 (chkH h), .slice s7.a s7.n s7.c, .int .i64 (chkH h), .pointer (some ⟨g5, 0, none⟩), .int .i64 ((hear h x).2 : Int), .pointer (some ⟨g6, 0, none⟩), .int .i64 ((hear h x).2 : Int), .bool true, j 21, j 22, j 23, .agg ([.int .i64 h.users, .slice pa pn pc, .slice r.a r.n r.c, .slice q.a q.n q.c, .int .i64 h.rounds]).toArray, .bool false, .agg ([.int .i64 h.users, .slice pa pn pc, .slice r.a r.n r.c, .slice q.a q.n q.c, .int .i64 h.rounds]).toArray, .agg ([.int .i64 h.users, .slice pT.a pT.n pT.c, .slice rT.a rT.n rT.c, .slice qT.a qT.n qT.c, .int .i64 h.rounds]).toArray, .tuple #[.agg ([.int .i64 (newH u).users, .slice p4.a p4.n p4.c, .slice r4.a r4.n r4.c, .slice q4.a q4.n q4.c, .int .i64 (newH u).rounds]).toArray, .int .i64 (newE u)], .int .i64 u, .tuple #[.agg ([.int .i64 (newH u).users, .slice p4.a p4.n p4.c, .slice r4.a r4.n r4.c, .slice q4.a q4.n q4.c, .int .i64 (newH u).rounds]).toArray, .int .i64 (newE u)], .agg ([.int .i64 (newH u).users, .slice p4.a p4.n p4.c, .slice r4.a r4.n r4.c, .slice q4.a q4.n q4.c, .int .i64 (newH u).rounds]).toArray, .int .i64 (newE u), .tuple #[.agg ([.int .i64 (newH u).users, .slice p5.a p5.n p5.c, .slice r5.a r5.n r5.c, .slice q5.a q5.n q5.c, .int .i64 (newH u).rounds]).toArray, .int .i64 (newE u)], .int .i64 u, .tuple #[.agg ([.int .i64 (newH u).users, .slice p5.a p5.n p5.c, .slice r5.a r5.n r5.c, .slice q5.a q5.n q5.c, .int .i64 (newH u).rounds]).toArray, .int .i64 (newE u)], .agg ([.int .i64 (newH u).users, .slice p5.a p5.n p5.c, .slice r5.a r5.n r5.c, .slice q5.a q5.n q5.c, .int .i64 (newH u).rounds]).toArray, .int .i64 (newE u), .tuple #[.slice s6.a s6.n s6.c, .int .i64 (chkH h)], .agg ([.int .i64 h.users, .slice pT.a pT.n pT.c, .slice rT.a rT.n rT.c, .slice qT.a qT.n qT.c, .int .i64 h.rounds]).toArray, .tuple #[.slice s6.a s6.n s6.c, .int .i64 (chkH h)], .slice s6.a s6.n s6.c, .int .i64 (chkH h), .tuple #[.slice s7.a s7.n s7.c, .int .i64 (chkH h)], .agg ([.int .i64 h.users, .slice pa pn pc, .slice r.a r.n r.c, .slice q.a q.n q.c, .int .i64 h.rounds]).toArray, .tuple #[.slice s7.a s7.n s7.c, .int .i64 (chkH h)], .slice s7.a s7.n s7.c, .int .i64 (chkH h), .tuple #[.agg ([.int .i64 (hear h x).1.users, .slice p8.a p8.n p8.c, .slice r8.a r8.n r8.c, .slice q8.a q8.n q8.c, .int .i64 (hear h x).1.rounds]).toArray, .int .i64 ((hear h x).2 : Int)], .agg ([.int .i64 h.users, .slice pT.a pT.n pT.c, .slice rT.a rT.n rT.c, .slice qT.a qT.n qT.c, .int .i64 h.rounds]).toArray, .int .i64 x, .tuple #[.agg ([.int .i64 (hear h x).1.users, .slice p8.a p8.n p8.c, .slice r8.a r8.n r8.c, .slice q8.a q8.n q8.c, .int .i64 (hear h x).1.rounds]).toArray, .int .i64 ((hear h x).2 : Int)], .agg ([.int .i64 (hear h x).1.users, .slice p8.a p8.n p8.c, .slice r8.a r8.n r8.c, .slice q8.a q8.n q8.c, .int .i64 (hear h x).1.rounds]).toArray, .int .i64 ((hear h x).2 : Int), .tuple #[.agg ([.int .i64 (hear h x).1.users, .slice p9.a p9.n p9.c, .slice r9.a r9.n r9.c, .slice q9.a q9.n q9.c, .int .i64 (hear h x).1.rounds]).toArray, .int .i64 ((hear h x).2 : Int)], .agg ([.int .i64 h.users, .slice pa pn pc, .slice r.a r.n r.c, .slice q.a q.n q.c, .int .i64 h.rounds]).toArray, .int .i64 x, .tuple #[.agg ([.int .i64 (hear h x).1.users, .slice p9.a p9.n p9.c, .slice r9.a r9.n r9.c, .slice q9.a q9.n q9.c, .int .i64 (hear h x).1.rounds]).toArray, .int .i64 ((hear h x).2 : Int)], .agg ([.int .i64 (hear h x).1.users, .slice p9.a p9.n p9.c, .slice r9.a r9.n r9.c, .slice q9.a q9.n q9.c, .int .i64 (hear h x).1.rounds]).toArray, .int .i64 ((hear h x).2 : Int), .agg ([.int .i64 (newH u).users, .slice p4.a p4.n p4.c, .slice r4.a r4.n r4.c, .slice q4.a q4.n q4.c, .int .i64 (newH u).rounds]).toArray, .agg ([.int .i64 (newH u).users, .slice p5.a p5.n p5.c, .slice r5.a r5.n r5.c, .slice q5.a q5.n q5.c, .int .i64 (newH u).rounds]).toArray, .bool true, .bool true, .int .i64 (newE u), .int .i64 (newE u), .bool true, .bool true, .bool true, .slice s6.a s6.n s6.c, .slice s7.a s7.n s7.c, .bool true, .bool true, .bool true, .int .i64 (chkH h), .int .i64 (chkH h), .bool true, .bool true, .bool true, .agg ([.int .i64 (hear h x).1.users, .slice p8.a p8.n p8.c, .slice r8.a r8.n r8.c, .slice q8.a q8.n q8.c, .int .i64 (hear h x).1.rounds]).toArray, .agg ([.int .i64 (hear h x).1.users, .slice p9.a p9.n p9.c, .slice r9.a r9.n r9.c, .slice q9.a q9.n q9.c, .int .i64 (hear h x).1.rounds]).toArray, .bool true, .bool true, .bool true, .int .i64 ((hear h x).2 : Int), .int .i64 ((hear h x).2 : Int), .bool true, .bool true, .bool true, .agg ([.int .i64 h.users, .slice pT.a pT.n pT.c, .slice rT.a rT.n rT.c, .slice qT.a qT.n qT.c, .int .i64 h.rounds]).toArray, .int .i64 (chkH h), .agg ([.int .i64 h.users, .slice pa pn pc, .slice r.a r.n r.c, .slice q.a q.n q.c, .int .i64 h.rounds]).toArray, .int .i64 (chkH h), .bool true, .bool true, .agg ([.int .i64 (hear h x).1.users, .slice p8.a p8.n p8.c, .slice r8.a r8.n r8.c, .slice q8.a q8.n q8.c, .int .i64 (hear h x).1.rounds]).toArray, .slice (some ⟨gq, 0, none⟩) (2 + 2 * p8.n) c1, .int .i64 ((2 + 2 * p8.n : Nat) : Int), .int .i64 (o.1 : Int), j 99, j 100, j 101, j 102, j 103, j 104, j 105, j 106, j 107, j 108, j 109, j 110, j 111, j 112, j 113, j 114, j 115, j 116, j 117]) (fun (o : Nat × List Blk) => [⟨g6, [.int .i64 (hear h x).1.users, .slice p9.a p9.n p9.c, .slice r9.a r9.n r9.c, .slice q9.a q9.n q9.c, .int .i64 (hear h x).1.rounds], 52⟩, ⟨g5, [.int .i64 (hear h x).1.users, .slice p8.a p8.n p8.c, .slice r8.a r8.n r8.c, .slice q8.a q8.n q8.c, .int .i64 (hear h x).1.rounds], 52⟩, ⟨g4, [.int .i64 (newH u).users, .slice p5.a p5.n p5.c, .slice r5.a r5.n r5.c, .slice q5.a q5.n q5.c, .int .i64 (newH u).rounds], 52⟩, ⟨g3, [.int .i64 (newH u).users, .slice p4.a p4.n p4.c, .slice r4.a r4.n r4.c, .slice q4.a q4.n q4.c, .int .i64 (newH u).rounds], 52⟩, ⟨g2, [.int .i64 h.users, .slice pT.a pT.n pT.c, .slice rT.a rT.n rT.c, .slice qT.a qT.n qT.c, .int .i64 h.rounds], 52⟩, ⟨g1, [.int .i64 h.users, .slice pa pn pc, .slice r.a r.n r.c, .slice q.a q.n q.c, .int .i64 h.rounds], 52⟩, ⟨gq, cur, 35⟩] ++ (BT ++ o.2)) (fun (o : Nat × List Blk) => o.1 ≤ 2 + 2 * p8.n ∧ Shp B8 o.2) (fun (o : Nat × List Blk) => 2 + 2 * p8.n - o.1) (0, B8) (by kernel_rfl) hW ⟨Nat.zero_le _, Shp.refl _⟩ ?_
    intro o j W hx hW
    obtain ⟨i, B1⟩ := o
    obtain ⟨hx, hsh⟩ := hx
    simp only at hx hsh
    refine c_seq ?_
    refine c_reg ?_
    refine l_val (r_lssN rfl rfl rfl rfl) rfl rfl ?_
    refine l_split ?_ ?_
    · intro hc2
      replace hc2 := of_decide_eq_true hc2
      have hs0 : (r8 :: q8 :: ss8)[i]? = some ((r8 :: q8 :: ss8)[i]'(by simp only [List.length_cons]; omega)) := List.getElem?_eq_getElem _
      obtain ⟨s, hs⟩ : ∃ s, (r8 :: q8 :: ss8)[i]? = some s := ⟨_, hs0⟩
      have hin := n8.mem hs
      have hsn := hns8 _ _ hs
      refine l_end ?_
      refine n_then ?_
      refine c_seq ?_
      refine c_true rfl ?_
      refine c_skip ?_
      refine n_then ?_
      refine c_seq ?_
      refine c_block ?_
      refine c_seq ?_
      refine c_reg ?_
      refine l_val (r_indexAddrSl1 (n := i) Try.underlying69 tyC35.size rfl rfl rfl (by omega)) rfl rfl ?_
      refine l_loadC hW 6 tyC35 (v := s.v) rfl rfl rfl rfl rfl (hcv _ _ hs) ?_
      refine l_val (r_assign (v := .slice _ _ _) rfl rfl) rfl rfl ?_
      refine l_end ?_
      refine n_then ?_
      refine c_seq ?_
      refine c_reg ?_
      refine l_val (r_move (v := .slice _ _ _) rfl rfl) rfl rfl ?_
      refine l_val (r_lenSlice Try.underlying35 rfl rfl) rfl rfl ?_
      refine l_val (r_move (v := .int _ _) rfl rfl) rfl rfl ?_
      refine l_end ?_
      refine n_then ?_
      refine c_block ?_
      refine c_loop (fun (z : Nat × List Blk) (j : Nat → Value) => [.agg [.int .i64 h.users, .slice pa pn pc, .slice r.a r.n r.c, .slice q.a q.n q.c, .int .i64 h.rounds].toArray, .int .i64 u, .int .i64 x, .pointer (some ⟨g1, 0, none⟩), j 4, j 5, .bool false, .pointer (some ⟨g2, 0, none⟩), .pointer (some ⟨g3, 0, none⟩), .int .i64 (newE u), .pointer (some ⟨g4, 0, none⟩), .int .i64 (newE u), .slice s6.a s6.n s6.c, .int .i64 (chkH h), .slice s7.a s7.n s7.c, .int .i64 (chkH h), .pointer (some ⟨g5, 0, none⟩), .int .i64 ((hear h x).2 : Int), .pointer (some ⟨g6, 0, none⟩), .int .i64 ((hear h x).2 : Int), .bool true, j 21, .slice s.a s.n s.c, j 23, .agg ([.int .i64 h.users, .slice pa pn pc, .slice r.a r.n r.c, .slice q.a q.n q.c, .int .i64 h.rounds]).toArray, .bool false, .agg ([.int .i64 h.users, .slice pa pn pc, .slice r.a r.n r.c, .slice q.a q.n q.c, .int .i64 h.rounds]).toArray, .agg ([.int .i64 h.users, .slice pT.a pT.n pT.c, .slice rT.a rT.n rT.c, .slice qT.a qT.n qT.c, .int .i64 h.rounds]).toArray, .tuple #[.agg ([.int .i64 (newH u).users, .slice p4.a p4.n p4.c, .slice r4.a r4.n r4.c, .slice q4.a q4.n q4.c, .int .i64 (newH u).rounds]).toArray, .int .i64 (newE u)], .int .i64 u, .tuple #[.agg ([.int .i64 (newH u).users, .slice p4.a p4.n p4.c, .slice r4.a r4.n r4.c, .slice q4.a q4.n q4.c, .int .i64 (newH u).rounds]).toArray, .int .i64 (newE u)], .agg ([.int .i64 (newH u).users, .slice p4.a p4.n p4.c, .slice r4.a r4.n r4.c, .slice q4.a q4.n q4.c, .int .i64 (newH u).rounds]).toArray, .int .i64 (newE u), .tuple #[.agg ([.int .i64 (newH u).users, .slice p5.a p5.n p5.c, .slice r5.a r5.n r5.c, .slice q5.a q5.n q5.c, .int .i64 (newH u).rounds]).toArray, .int .i64 (newE u)], .int .i64 u, .tuple #[.agg ([.int .i64 (newH u).users, .slice p5.a p5.n p5.c, .slice r5.a r5.n r5.c, .slice q5.a q5.n q5.c, .int .i64 (newH u).rounds]).toArray, .int .i64 (newE u)], .agg ([.int .i64 (newH u).users, .slice p5.a p5.n p5.c, .slice r5.a r5.n r5.c, .slice q5.a q5.n q5.c, .int .i64 (newH u).rounds]).toArray, .int .i64 (newE u), .tuple #[.slice s6.a s6.n s6.c, .int .i64 (chkH h)], .agg ([.int .i64 h.users, .slice pT.a pT.n pT.c, .slice rT.a rT.n rT.c, .slice qT.a qT.n qT.c, .int .i64 h.rounds]).toArray, .tuple #[.slice s6.a s6.n s6.c, .int .i64 (chkH h)], .slice s6.a s6.n s6.c, .int .i64 (chkH h), .tuple #[.slice s7.a s7.n s7.c, .int .i64 (chkH h)], .agg ([.int .i64 h.users, .slice pa pn pc, .slice r.a r.n r.c, .slice q.a q.n q.c, .int .i64 h.rounds]).toArray, .tuple #[.slice s7.a s7.n s7.c, .int .i64 (chkH h)], .slice s7.a s7.n s7.c, .int .i64 (chkH h), .tuple #[.agg ([.int .i64 (hear h x).1.users, .slice p8.a p8.n p8.c, .slice r8.a r8.n r8.c, .slice q8.a q8.n q8.c, .int .i64 (hear h x).1.rounds]).toArray, .int .i64 ((hear h x).2 : Int)], .agg ([.int .i64 h.users, .slice pT.a pT.n pT.c, .slice rT.a rT.n rT.c, .slice qT.a qT.n qT.c, .int .i64 h.rounds]).toArray, .int .i64 x, .tuple #[.agg ([.int .i64 (hear h x).1.users, .slice p8.a p8.n p8.c, .slice r8.a r8.n r8.c, .slice q8.a q8.n q8.c, .int .i64 (hear h x).1.rounds]).toArray, .int .i64 ((hear h x).2 : Int)], .agg ([.int .i64 (hear h x).1.users, .slice p8.a p8.n p8.c, .slice r8.a r8.n r8.c, .slice q8.a q8.n q8.c, .int .i64 (hear h x).1.rounds]).toArray, .int .i64 ((hear h x).2 : Int), .tuple #[.agg ([.int .i64 (hear h x).1.users, .slice p9.a p9.n p9.c, .slice r9.a r9.n r9.c, .slice q9.a q9.n q9.c, .int .i64 (hear h x).1.rounds]).toArray, .int .i64 ((hear h x).2 : Int)], .agg ([.int .i64 h.users, .slice pa pn pc, .slice r.a r.n r.c, .slice q.a q.n q.c, .int .i64 h.rounds]).toArray, .int .i64 x, .tuple #[.agg ([.int .i64 (hear h x).1.users, .slice p9.a p9.n p9.c, .slice r9.a r9.n r9.c, .slice q9.a q9.n q9.c, .int .i64 (hear h x).1.rounds]).toArray, .int .i64 ((hear h x).2 : Int)], .agg ([.int .i64 (hear h x).1.users, .slice p9.a p9.n p9.c, .slice r9.a r9.n r9.c, .slice q9.a q9.n q9.c, .int .i64 (hear h x).1.rounds]).toArray, .int .i64 ((hear h x).2 : Int), .agg ([.int .i64 (newH u).users, .slice p4.a p4.n p4.c, .slice r4.a r4.n r4.c, .slice q4.a q4.n q4.c, .int .i64 (newH u).rounds]).toArray, .agg ([.int .i64 (newH u).users, .slice p5.a p5.n p5.c, .slice r5.a r5.n r5.c, .slice q5.a q5.n q5.c, .int .i64 (newH u).rounds]).toArray, .bool true, .bool true, .int .i64 (newE u), .int .i64 (newE u), .bool true, .bool true, .bool true, .slice s6.a s6.n s6.c, .slice s7.a s7.n s7.c, .bool true, .bool true, .bool true, .int .i64 (chkH h), .int .i64 (chkH h), .bool true, .bool true, .bool true, .agg ([.int .i64 (hear h x).1.users, .slice p8.a p8.n p8.c, .slice r8.a r8.n r8.c, .slice q8.a q8.n q8.c, .int .i64 (hear h x).1.rounds]).toArray, .agg ([.int .i64 (hear h x).1.users, .slice p9.a p9.n p9.c, .slice r9.a r9.n r9.c, .slice q9.a q9.n q9.c, .int .i64 (hear h x).1.rounds]).toArray, .bool true, .bool true, .bool true, .int .i64 ((hear h x).2 : Int), .int .i64 ((hear h x).2 : Int), .bool true, .bool true, .bool true, .agg ([.int .i64 h.users, .slice pT.a pT.n pT.c, .slice rT.a rT.n rT.c, .slice qT.a qT.n qT.c, .int .i64 h.rounds]).toArray, .int .i64 (chkH h), .agg ([.int .i64 h.users, .slice pa pn pc, .slice r.a r.n r.c, .slice q.a q.n q.c, .int .i64 h.rounds]).toArray, .int .i64 (chkH h), .bool true, .bool true, .agg ([.int .i64 (hear h x).1.users, .slice p8.a p8.n p8.c, .slice r8.a r8.n r8.c, .slice q8.a q8.n q8.c, .int .i64 (hear h x).1.rounds]).toArray, .slice (some ⟨gq, 0, none⟩) (2 + 2 * p8.n) c1, .int .i64 ((2 + 2 * p8.n : Nat) : Int), .int .i64 (i : Int), .bool true, j 100, .slice s.a s.n s.c, .slice s.a s.n s.c, .int .i64 (s.n : Int), .int .i64 (z.1 : Int), j 105, j 106, j 107, j 108, j 109, j 110, j 111, j 112, j 113, j 114, j 115, j 116, j 117]) (fun (z : Nat × List Blk) => [⟨g6, [.int .i64 (hear h x).1.users, .slice p9.a p9.n p9.c, .slice r9.a r9.n r9.c, .slice q9.a q9.n q9.c, .int .i64 (hear h x).1.rounds], 52⟩, ⟨g5, [.int .i64 (hear h x).1.users, .slice p8.a p8.n p8.c, .slice r8.a r8.n r8.c, .slice q8.a q8.n q8.c, .int .i64 (hear h x).1.rounds], 52⟩, ⟨g4, [.int .i64 (newH u).users, .slice p5.a p5.n p5.c, .slice r5.a r5.n r5.c, .slice q5.a q5.n q5.c, .int .i64 (newH u).rounds], 52⟩, ⟨g3, [.int .i64 (newH u).users, .slice p4.a p4.n p4.c, .slice r4.a r4.n r4.c, .slice q4.a q4.n q4.c, .int .i64 (newH u).rounds], 52⟩, ⟨g2, [.int .i64 h.users, .slice pT.a pT.n pT.c, .slice rT.a rT.n rT.c, .slice qT.a qT.n qT.c, .int .i64 h.rounds], 52⟩, ⟨g1, [.int .i64 h.users, .slice pa pn pc, .slice r.a r.n r.c, .slice q.a q.n q.c, .int .i64 h.rounds], 52⟩, ⟨gq, cur, 35⟩] ++ (BT ++ z.2)) (fun (z : Nat × List Blk) => z.1 ≤ s.n ∧ Shp B8 z.2) (fun (z : Nat × List Blk) => s.n - z.1) (0, B1) (by kernel_rfl) hW ⟨Nat.zero_le _, hsh⟩ ?_
      intro z j W hx hW
      obtain ⟨n, B2⟩ := z
      obtain ⟨hz, hsh2⟩ := hx
      simp only at hz hsh2
      refine c_seq ?_
      refine c_reg ?_
      refine l_val (r_lssN rfl rfl rfl rfl) rfl rfl ?_
      refine l_split ?_ ?_
      · intro hc3
        replace hc3 := of_decide_eq_true hc3
        obtain ⟨k, y, o0, hk, ha, hl⟩ := hin.shp hsh2 (by omega)
        refine l_end ?_
        refine n_then ?_
        refine c_seq ?_
        refine c_true rfl ?_
        refine c_skip ?_
        refine n_then ?_
        refine c_seq ?_
        refine c_block ?_
        refine c_seq ?_
        refine c_reg ?_
        refine l_val (r_move (v := .int _ _) rfl rfl) rfl rfl ?_
        refine l_val (r_assign (v := .int _ _) rfl rfl) rfl rfl ?_
        refine l_end ?_
        refine n_then ?_
        refine c_reg ?_
        refine l_val (r_move (v := .slice _ _ _) rfl rfl) rfl rfl ?_
        refine l_val (r_move (v := .int _ _) rfl rfl) rfl rfl ?_
        refine l_val (r_indexAddrSl2 (n := n) Try.underlying35 tyC3.size rfl (congrArg (fun a => Value.slice a s.n s.c) ha) rfl (by omega)) rfl rfl ?_
        refine l_storeIn (L := [_, _, _, _, _, _, _] ++ BT) (B := B2) hW tyC3 hk rfl rfl rfl rfl rfl (by omega) rfl ?_
        intro W hW
        refine l_end ?_
        refine n_block ?_
        refine n_then ?_
        refine c_reg ?_
        refine l_val (r_addN (n := 1) rfl rfl rfl (by omega)) rfl rfl ?_
        refine l_val (r_move (v := .int _ _) rfl rfl) rfl rfl ?_
        refine l_end ?_
        refine n_then ?_
        exact loop_next (n + 1, _) (by kernel_rfl) hW ⟨by simp only; omega, hsh2.set hk (by simp)⟩ (by simp only; omega)
      · intro hc3
        replace hc3 := of_decide_eq_false hc3
        refine l_end ?_
        refine n_then ?_
        refine c_seq ?_
        refine c_false rfl ?_
        refine c_exit ?_
        refine x_then ?_
        refine x_then ?_
        refine x_hit ?_
        refine n_block ?_
        refine n_then ?_
        refine c_reg ?_
        refine l_val (r_addN (n := 1) rfl rfl rfl (by omega)) rfl rfl ?_
        refine l_val (r_move (v := .int _ _) rfl rfl) rfl rfl ?_
        refine l_end ?_
        refine n_then ?_
        exact loop_next (i + 1, B2) (by kernel_rfl) hW ⟨by simp only; omega, hsh2⟩ (by simp only; omega)
    · intro hc2
      replace hc2 := of_decide_eq_false hc2
      refine l_end ?_
      refine n_then ?_
      refine c_seq ?_
      refine c_false rfl ?_
      refine c_exit ?_
      refine x_then ?_
      refine x_then ?_
      refine x_hit ?_
      refine n_then ?_
      refine c_seq ?_
      refine c_reg ?_
      refine l_val (r_move (v := .bool _) rfl rfl) rfl rfl ?_
      refine l_val (r_move (v := .bool _) rfl rfl) rfl rfl ?_
      refine l_loadAG hW 4 tyA52 (by kernel_rfl) rfl rfl rfl rfl (by first | rfl | exact kc_len _ | exact kcf_len _ | (simp; done)) ?_
      refine l_loadAG hW 5 tyA52 (by kernel_rfl) rfl rfl rfl rfl (by first | rfl | exact kc_len _ | exact kcf_len _ | (simp; done)) ?_
      refine l_callRG hW (g_SameHunt h pT.a pT.n pT.c rT qT ssT pa pn pc r q ss hfT hfit (fun l hl => by have := hone l hl; omega)) en25 ⟨nT.rep.at hW (List.sublist_append_left BT B1 |>.trans (List.sublist_append_right [_, _, _, _, _, _, _] _)), hP.past hW.below⟩ (by kernel_rfl) rfl rfl rfl ?_
      intro W hW
      refine l_val (r_pick (v := .bool _) rfl rfl rfl) rfl rfl ?_
      refine l_val (r_assign (v := .bool _) rfl rfl) rfl rfl ?_
      refine l_end ?_
      refine n_then ?_
      refine c_ret ?_
      refine ret_tmp (v := .bool true) rfl ?_ ⟨rfl, hW.below⟩
      rfl

end Go.Proofs.Ytoegpalacppllaa

/- For every hunt that is not great, every number of users and every variant: a new hunt, whether the hunt is valid, its variants, and the hunt after hearing the variant by the program, or the errors, are those of the reference, and the hunt is not changed; no conditions. -/
namespace Go.Proofs.Ytoegpalacppllaa
open Go.RowKit Go.ChangeShapes Go.WideShapes Pl Tr Hn

theorem traceHunts_calls (H : Type) (enc : TypeId × Value → H) (W : World) (base : Nat) (args : Array Value) (ds : List (DataW H)) (ps : List MemPlace) (h : Opened enc Try.prog W Try.f5 base args ds ps) :
    Calls Try.prog 5 args W fun e w' => e = .returned (.bool true) ∧ Below W.heap.size W w' := by
  have r0 := h.args (ts := [52, 3, 3]) (by kernel_rfl)
  generalize hl : args.toList = l0 at r0
  obtain ⟨_, l1, rfl, a0, r1⟩ := r0.cons
  obtain ⟨h, h_a, h_n, h_c, h_r, h_q, h_ss, rfl, h_rd, h_fit, h_len⟩ := a0.hunt tyHu52
  obtain ⟨_, l2, rfl, a1, r2⟩ := r1.cons
  obtain ⟨u, rfl, u_lo, u_hi⟩ := a1.int Try.underlying3
  obtain ⟨_, l3, rfl, a2, r3⟩ := r2.cons
  obtain ⟨x, rfl, x_lo, x_hi⟩ := a2.int Try.underlying3
  obtain rfl := r3.nil
  rw [arr_of hl]
  exact g_TraceHunts h h_a h_n h_c h_r h_q h_ss u x h_fit h_len W h_rd
set_option maxRecDepth 100000 in
theorem traceHunts_holds : Rows.TraceHuntsSaid :=
  OpenClaim.holds_of_wide 5 Try.f5 rfl rfl rfl rfl rfl rfl rfl ⟨rfl, rfl, rfl, rfl, rfl⟩ rfl rfl rfl rfl rfl (by kernel_rfl) Try.func5 (by kernel_rfl)
    (of_decide_eq_true (by kernel_rfl)) (by unfold Func.isWrapper; first | (rw [if_pos (by decide +kernel)]; kernel_rfl) | (rw [if_neg (by decide +kernel)]; exact ⟨rfl, rfl⟩))
    (fun os started H enc _ => law_lifted (C := Try.checked) (s := Rows.traceHuntsSpec) (conds := Rows.traceHuntsRow.domain) 4 (by kernel_rfl) (by kernel_rfl) Try.func5 (by kernel_rfl) (by kernel_rfl) rfl
      (fun H ds hd => match ds, hd with | [_, _, _], _ => rfl) (by kernel_rfl) Try.underlying4 traceHunts_calls os started H enc
      (ChangeSpec.witness6 (enc := enc) (C := Try.checked) false ⟨#[], #[.agg #[.int .i64 0, .slice none 0 0, .slice none 0 0, .slice none 0 0, .int .i64 0], .int .i64 0, .int .i64 0], []⟩ 8 (by kernel_rfl) (by kernel_rfl) (by kernel_rfl) (by kernel_rfl)))
#print axioms traceHunts_holds
end Go.Proofs.Ytoegpalacppllaa

