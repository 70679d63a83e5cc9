/- The limits, the numbers of errors, and the examples of the chapter on tracing hold of the program; no input, no conditions. -/
import Derived.Test.YtoegpalacppllaaGreatPkB5
import Derived.Test.YtoegpalacppllaaGreatProg
import Derived.ChangeSlices
import Derived.ChangeMaps5
import Derived.Test.YtoegpalacppllaaGreatRows
/- Closed facts on types and functions of the program, written by a program. -/
namespace Go.Proofs.YtoegpalacppllaaGreat
open Pl
theorem en31 : Enters Tryz.prog 31 := enters_of Tryz.func31 (by kernel_rfl) rfl
end Go.Proofs.YtoegpalacppllaaGreat

/- What a law's arguments are: opened by their types. -/
namespace Go.Proofs.YtoegpalacppllaaGreat
open Go.RowKit Go.ChangeShapes Go.WideShapes Pl

section
variable {P : Program} {W : World}

theorem arr_of {args : Array Value} {l : List Value} (h : args.toList = l) : args = l.toArray := by subst h; simp

end
end Go.Proofs.YtoegpalacppllaaGreat

/- A region that draws its order, order by order. No function of the program is in sight here. -/
namespace Go.Proofs.YtoegpalacppllaaGreat
open Go.RowKit
section
variable {P : Program} {ops : Array Oper} {Q : Exit → Act → World → Prop} {a : Act} {w0 : Base} {W : World} {L : List Blk} {r : Option (Option Nat)} {m : Nat} {o : Oper} {K : Act → World → Prop}
theorem fr_eq {bs : List Value} {us : List (Nat × Value)} {ds : List Deferred} {F : (Nat → Value) → List Value} (hl : toL bs us = F (look bs us)) : fr bs us ds = fr (F (look bs us)) [] ds := by rw [← hl]; rfl
/-- what a piece of code comes to, said once -/
theorem c_join {c : Code} (X : Act → World → Prop) (h : CW r m P c (thenA Q X) a W) (hk : ∀ a W, X a W → Q .normal a W) : CW r m P c Q a W := CW.mono h (by
  intro e a W h
  cases e with
  | normal => exact hk _ _ h
  | _ => exact h)
end
end Go.Proofs.YtoegpalacppllaaGreat

/- A region that draws its order: makers first, beside a new variable that may be made at any time; then what is left, order by order. No function of the program is in sight here. -/
namespace Go.Proofs.YtoegpalacppllaaGreat
open Go.RowKit
section
variable {P : Program} {ops : Array Oper} {Q : Exit → Act → World → Prop} {a : Act} {w0 : Base} {W : World} {L : List Blk} {md : Region.Mode} {S : List Nat} {r : Option (Option Nat)} {m : Nat} {ms : List Mk} {bs : List Value} {us : List (Nat × Value)} {ds : List Deferred}
def regionVB (ops : Array Oper) (ks : List Kd) (D ix M ord tl : List Nat) (z d : Nat) (dn : Array Bool) : Bool :=
  Region.noSelect ops && allB .any ops D ix (fun j => ks.getD j .tail) && masksB .any ops M && ((z :: (ord ++ tl)).all fun k => Nat.blt k ops.size) && ((ord ++ tl).length + 1 == ops.size) &&
    alB .any ops D ix (fun j => ks.getD j .tail) z d && ks.all noS && !(dn.getD z true) &&
    lexO .any ops (fun j => ks.getD j .tail) ix M (fun o done => (o == tl) && (done == dn.setIfInBounds z true)) (ord ++ tl) ((Array.replicate ops.size false).setIfInBounds z true)
theorem pickQ {b : Base} {W : World} {x : Blk} {B C : List Blk} (h : Cl b (x :: (B ++ C)) W) : Cl b ((x :: C) ++ B) W := h.perm (List.Perm.cons x List.perm_append_comm)
theorem c_regVB (hW : Cl w0 L W) {id : Nat} {os : List Oper} {oz : Oper} {t : Nat} {zc : List Value} (S : List Nat) (ks : List Kd) (ms : List Mk) (V : List (List Value)) (ix M ord tl : List Nat) (z d : Nat) (dn : Array Bool) (hm : P.follows .mixedOrders = true) (hB : regionVB os.toArray ks (ms.map Mk.d) ix M ord tl z d dn = true) (hV : V.length = ms.length) (hd : (ms.all fun k => Nat.blt k.d bs.length) = true)
    (hoz : os[z]? = some oz) (hal : ∀ ρ w, (execOp ρ oz).run P w = .ok (.value (.pointer (some ⟨w.heap.size, 0, none⟩))) (w.alloc (.cells zc.toArray t)))
    (h : lx P os.toArray w0 S ms (fun _ _ => False)
      (fun _ a' s' => Full ms s'.2 a' s'.1 fun a' L' => (∀ g w', Cl w0 (⟨g, zc, t⟩ :: L') w' → AW r m P .any os.toArray Q tl.length (dn.setIfInBounds z true) (a'.put (some d) (.pointer (some ⟨g, 0, none⟩))) w') ∧ ∀ w', Cl w0 L' w' → AW r m P .any os.toArray Q (tl.length + 1) dn a' w') ((ord ++ tl).map fun j => ks.getD j .tail) (pickL os.toArray (ord ++ tl)) (fr bs us ds) (L, V)) : CW r m P (Code.region id os.toArray true) Q (fr bs us ds) W := by
  simp only [regionVB, Bool.and_eq_true, beq_iff_eq, Bool.not_eq_true'] at hB
  obtain ⟨⟨⟨⟨⟨⟨⟨⟨hsel, hall⟩, hM⟩, hv⟩, hlen⟩, hzB⟩, hnS⟩, hdz⟩, hlex⟩ := hB
  obtain ⟨oz', hz⟩ := alB_spec hzB
  have hoz' : oz' = oz := by
    have h1 := hz.at_
    simp only [List.getElem?_toArray] at h1
    rw [hoz] at h1; injection h1 with h1; exact h1.symm
  subst hoz'
  have hns : ∀ i, noS (ks.getD i .tail) = true := fun i => by
    rcases Nat.lt_or_ge i ks.length with hi | hi
    · rw [List.getD_eq_getElem?_getD, List.getElem?_eq_getElem hi]
      exact List.all_eq_true.1 hnS _ (List.getElem_mem hi)
    · rw [List.getD_eq_getElem?_getD, List.getElem?_eq_none hi]; rfl
  have hv' : ∀ k ∈ z :: (ord ++ tl), k < os.toArray.size := fun k hk => by
    have := List.all_eq_true.1 hv k hk
    rwa [Nat.blt_eq] at this
  have hzlt := hv' z (by simp)
  have sz : ∀ {k : Mk} {l : List Mk}, (l.all fun k => Nat.blt k.d bs.length) = true → k ∈ l → k.d < (fr bs us ds).tmps.size := fun hl hk => by
    have := List.all_eq_true.1 hl _ hk
    rw [Nat.blt_eq] at this
    simpa [fr, toL_len] using this
  obtain ⟨T, hT⟩ : ∃ T : Act → List Blk → Prop, T = fun a' L' => (∀ g w', Cl w0 (⟨g, zc, t⟩ :: L') w' → AW r m P .any os.toArray Q tl.length (dn.setIfInBounds z true) (a'.put (some d) (.pointer (some ⟨g, 0, none⟩))) w') ∧ ∀ w', Cl w0 L' w' → AW r m P .any os.toArray Q (tl.length + 1) dn a' w' := ⟨_, rfl⟩
  rw [← hT] at h
  have ne0 : ∀ i, (Array.replicate os.toArray.size false).getD i false = false := fun i => none_done _ _
  have H : AW r m P .any os.toArray Q os.toArray.size (Array.replicate os.toArray.size false) (fr bs us ds) W.drew := by
    have hc0 : Closed .any os.toArray ((Array.replicate os.toArray.size false).setIfInBounds z true) := fun j oj hj hd e he hb => by
      by_cases hjz : z = j
      · subst hjz
        obtain rfl : oj = oz' := Option.some.inj (hj.symm.trans hz.at_)
        rw [hz.after e he] at hb; cases hb
      · rw [getD_set_ne false hjz, ne0] at hd; cases hd
    have h1 := anyC_lexO (P := P) (w0 := w0) (S := S) (ms := ms) (md := .any) (kd := fun j => ks.getD j .tail) (ix := ix) (R := fun _ _ => False) (T := fun _ a' s' => Full ms s'.2 a' s'.1 T) (U := fun f done a s => f = tl.length ∧ done = dn.setIfInBounds z true ∧ Full ms s.2 a s.1 T)
      hM hsel (fun o done a s hc ht hT => by
        simp only [Bool.and_eq_true, beq_iff_eq] at ht
        exact ⟨by rw [ht.1], ht.2, hT⟩) (ord ++ tl) ((Array.replicate os.toArray.size false).setIfInBounds z true) (fr bs us ds) (L, V) (fun k hk => hv' k (by simp only [List.mem_cons]; exact .inr hk)) hc0 hlex h
    have h2 := anyC_v (N := (fr bs us ds).tmps.size) (P := P) (r := r) (m := m) (Q := Q) (allB_spec hall) (Region.noSelect_spec hsel) hz hns hal
      (fun f done a s vs Ns w g hMd hs hC hsz ⟨hf, hdn, hF⟩ => by
        obtain ⟨L', hp, hk⟩ := Full.use hMd hs hF
        rw [hT] at hk
        rw [← puts_put ms vs a hz.ds, hz.dst, hf, hdn]
        exact hk.1 g w (hC.perm (by
          rw [List.append_assoc]
          exact (List.Perm.append_left _ List.perm_append_comm).trans (by rw [← List.append_assoc]; exact (hp.append_right _).trans (List.perm_append_singleton _ _)))))
      (fun f done a s vs Ns w hMd hs hC hsz hc hd ⟨hf, hdn, hF⟩ => by
        obtain ⟨L', hp, hk⟩ := Full.use hMd hs hF
        rw [hT] at hk
        have e : done = dn := by
          rw [← set_back hd, hdn, set_back hdz]
        rw [hf, e]
        exact hk.2 w (hC.perm hp))
      (ord ++ tl).length (Array.replicate os.toArray.size false) (fr bs us ds) (L, V) _ _ W.drew (fun j oj _ hd => by rw [ne0] at hd; cases hd) (by simp only [List.size_toArray] at hzlt; simp [hzlt]) (none_made ms V hV) (made0 fun i _ => none_done _ _) (fun k hk => sz hd hk) rfl (by
        have : (List.replicate ms.length ([] : List Blk)).flatten = [] := by simp
        rw [this, List.append_nil]
        exact hW.drew) h1
    rw [none_puts, hlen] at h2
    exact h2
  cases r with
  | none => exact wp_region_any hm H
  | some k => exact wpIn_region_any hm H
end
end Go.Proofs.YtoegpalacppllaaGreat

/- The law of examples. -/
namespace Go.Proofs.YtoegpalacppllaaGreat
open Go.RowKit Pl
open Tr Hn
def eg1 : Hu := ⟨1, [], [], [0], 1⟩
theorem eg_0 : newE 0 = 2 ∧ newE 65 = 2 ∧ newE 1 = 0 := ⟨by kernel_rfl, by kernel_rfl, by kernel_rfl⟩
theorem eg_1 : hear (newH 1) 0 = (eg1, 0) := by kernel_rfl
theorem eg_2 : hear eg1 0 = (noHunt, 80) := by kernel_rfl
theorem eg_3 : hear (newH 1) 1 = (noHunt, 80) := by kernel_rfl
theorem eg_r : (roundsV 1 1 = 1 ∧ roundsE 1 1 = 0) ∧ roundsV 3 4 = 0 ∧ roundsE 3 4 = 2 := ⟨⟨by kernel_rfl, by kernel_rfl⟩, by kernel_rfl, by kernel_rfl⟩
/-- a box with one life -/
def mB0 : Bo := { thB 3 with v := 1 }
def mB1 : Bo := askX mB0 (nodeL [2, 3]) 1
def mB2 : Bo := askX mB1 (nodeL [2, 3]) 1
theorem ed_2 : askE (thB 2) (nodeL [2, 3]) 1 = 0 ∧ askP (thB 2) (nodeL [2, 3]) 1 = false := ⟨by kernel_rfl, by kernel_rfl⟩
theorem ed_3 : askE (thB 3) (nodeL [2, 3]) 2 = 0 ∧ askP (thB 3) (nodeL [2, 3]) 2 = false := ⟨by kernel_rfl, by kernel_rfl⟩
theorem ed_4 : askE (thB 2) (nodeL [2, 3]) 0 = 0 ∧ askP (thB 2) (nodeL [2, 3]) 0 = true := ⟨by kernel_rfl, by kernel_rfl⟩
theorem em_0 : askE mB0 (nodeL [2, 3]) 1 = 0 ∧ askP mB0 (nodeL [2, 3]) 1 = true := ⟨by kernel_rfl, by kernel_rfl⟩
theorem em_1 : askE mB1 (nodeL [2, 3]) 1 = 0 ∧ askP mB1 (nodeL [2, 3]) 1 = false := ⟨by kernel_rfl, by kernel_rfl⟩
theorem em_2 : askE mB2 (nodeL [2, 3]) 0 = 0 ∧ askP mB2 (nodeL [2, 3]) 0 = false := ⟨by kernel_rfl, by kernel_rfl⟩
theorem em_x : mB2.x = 2 := by kernel_rfl
theorem em_l : mB1.l.length ≤ 100 ∧ mB2.l.length ≤ 100 := ⟨by decide +kernel, by decide +kernel⟩
theorem ec_5 : chkB (thB 5) = 8 := by kernel_rfl
theorem ep_1 : partsE (thB 1).s (nodeL [2, 4]) = 81 := by kernel_rfl
theorem ep_2 : partsE (thB 1).s (nodeL [16]) = 31 := by kernel_rfl
theorem ep_3 : partsE (thB 1).s (nodeL [2, 3]) = 0 := by kernel_rfl
theorem boC_setV (s : Sl) : (boC (thB 3) s).set 9 (.int .i64 1) = boC mB0 s := by kernel_rfl
theorem pickJ {b : Base} {W : World} {A B L : List Blk} {x y : Blk} (h : Cl b (((x :: y :: L) ++ A) ++ B) W) : Cl b ((x :: L) ++ B) W := h.pick ([y] ++ A) (by classical exact List.perm_iff_count.2 fun z => by simp only [List.count_append, List.count_cons, List.count_nil]; omega)
set_option maxRecDepth 10000 in
set_option maxHeartbeats 30000000 in
/-- headend/headendlaw08.TraceExamples -/
theorem g_TraceExamples  : Gives Tryz.prog 5 [].toArray (.bool true) := by
 refine gives_of Tryz.func5 rfl (bs := [undef, undef, undef, undef, undef, undef, undef, undef, undef, undef, undef, undef, undef, undef, undef, undef, undef, undef, undef, undef, undef, undef, undef, undef, undef, undef, undef, undef, undef, undef, undef, undef, undef, undef, undef, undef, undef, undef, undef, undef, undef, undef, undef, undef, undef, undef, undef, undef, undef, undef, undef, undef, undef, undef, undef, undef, undef, undef, undef, undef, undef, undef, undef, undef, undef, undef, undef, undef, undef, undef, undef, undef, undef, undef, undef, undef, undef, undef, undef, undef, undef, undef, undef, undef, undef, undef, undef, undef, undef, undef, undef, undef, undef, undef, undef, undef, undef, undef, undef, undef, undef, undef, undef, undef, undef, undef, undef, undef, undef, undef, undef, undef, undef, undef, undef, undef, undef, undef, undef, undef, undef, undef, undef, undef, undef, undef, undef, undef, undef, undef, undef, undef, undef, undef, undef, undef, undef, undef, undef, undef, undef, undef, undef, undef, undef, undef, undef, undef, undef, undef, undef, undef, undef, undef, undef, undef, undef, undef, undef, undef, undef, undef, undef, undef, undef, undef, undef, undef, undef, undef, undef, undef, undef, undef, undef, undef, undef, undef, undef, undef, undef, undef, undef, undef, undef, undef, undef, undef, undef, undef, undef, undef, undef, undef, undef, undef, undef, undef, undef, undef, undef, undef, undef, undef, undef, undef, undef, undef, undef, undef, undef, undef, undef, undef, undef, undef, undef, undef, undef, undef, undef, undef, undef, undef, undef, undef, undef, undef, undef, undef, undef, undef, undef, undef, undef, undef, undef, undef]) rfl ?_
 intro w hW
 refine c_seq (c_reg ?_)
 refine bB ?_
 refine l_end (n_then (c_seq (c_reg ?_)))
 refine l_callX hW (g_NewHunt 0) en28 trivial rfl rfl rfl rfl ?_
 rintro _ B1 W ⟨_, rfl, p1, r1, q1, ss1, rfl, n1⟩ hW
 rw [eg_0.1]
 refine l_val (r_move (v := .tuple _) rfl rfl) rfl rfl ?_
 refine l_val (r_extract (v := .agg _) rfl rfl rfl) rfl rfl ?_
 refine l_val (r_extract (v := .int _ _) rfl rfl rfl) rfl rfl ?_
 refine l_alloc hW tyZ69 rfl rfl rfl ?_
 intro g1 W hW
 refine sA hW 0 tyA69 ?_
 intro W hW
 refine bI ?_
 refine l_end (n_then (c_seq (c_reg ?_)))
 refine l_callX hW (g_NewHunt 65) en28 trivial rfl rfl rfl rfl ?_
 rintro _ B2 W ⟨_, rfl, p2, r2, q2, ss2, rfl, n2⟩ hW
 rw [eg_0.2.1]
 refine l_val (r_move (v := .tuple _) rfl rfl) rfl rfl ?_
 refine l_val (r_extract (v := .agg _) rfl rfl rfl) rfl rfl ?_
 refine l_val (r_extract (v := .int _ _) rfl rfl rfl) rfl rfl ?_
 refine l_alloc hW tyZ69 rfl rfl rfl ?_
 intro g2 W hW
 refine sA hW 0 tyA69 ?_
 intro W hW
 refine bI ?_
 refine l_end (n_then (c_seq (c_reg ?_)))
 refine l_callX hW (g_NewHunt 1) en28 trivial rfl rfl rfl rfl ?_
 rintro _ B3 W ⟨_, rfl, p3, r3, q3, ss3, rfl, n3⟩ hW
 rw [eg_0.2.2]
 refine l_val (r_move (v := .tuple _) rfl rfl) rfl rfl ?_
 refine l_val (r_extract (v := .agg _) rfl rfl rfl) rfl rfl ?_
 refine l_val (r_extract (v := .int _ _) rfl rfl rfl) rfl rfl ?_
 refine l_alloc hW tyZ69 rfl rfl rfl ?_
 intro g3 W hW
 refine sA hW 0 tyA69 ?_
 intro W hW
 refine bI ?_
 refine l_end (n_then (c_seq ?_))
 refine c_cut (fun j => [.bool false, j 1, .int .i64 2, j 3, .int .i64 2, .pointer (some ⟨g3, 0, none⟩), .int .i64 0, j 7, j 8, j 9, j 10, j 11, j 12, j 13, j 14, j 15, j 16, j 17, j 18, j 19, j 20, j 21, j 22, j 23, j 24, j 25, j 26, j 27, j 28, j 29, j 30, j 31, j 32, j 33, j 34, j 35, j 36, j 37, j 38, j 39, j 40, j 41, j 42, j 43, j 44, j 45, j 46, j 47, j 48, j 49, j 50, j 51, j 52, j 53, j 54, j 55, j 56, j 57, j 58, j 59, j 60, j 61, j 62, j 63, j 64, j 65, j 66, j 67, j 68, j 69, j 70, j 71, j 72, j 73, j 74, j 75, j 76, j 77, j 78, j 79, j 80, j 81, j 82, j 83, j 84, j 85, j 86, j 87, j 88, j 89, j 90, j 91, j 92, j 93, j 94, j 95, j 96, j 97, j 98, j 99, j 100, j 101, j 102, j 103, j 104, j 105, j 106, j 107, j 108, j 109, j 110, j 111, j 112, j 113, j 114, j 115, j 116, j 117, j 118, j 119, j 120, j 121, j 122, j 123, j 124, j 125, j 126, j 127, j 128, j 129, j 130, j 131, j 132, j 133, j 134, j 135, j 136, j 137, j 138, j 139, j 140, j 141, j 142, j 143, j 144, j 145, j 146, j 147, j 148, j 149, j 150, j 151, j 152, j 153, j 154, j 155, j 156, j 157, j 158, j 159, j 160, j 161, j 162, j 163, j 164, j 165, j 166, j 167, j 168, j 169, j 170, j 171, j 172, j 173, j 174, j 175, j 176, j 177, j 178, j 179, j 180, j 181, j 182, j 183, j 184, j 185, j 186, j 187, j 188, j 189, j 190, j 191, j 192, j 193, j 194, j 195, j 196, j 197, j 198, j 199, j 200, j 201, j 202, j 203, j 204, j 205, j 206, j 207, j 208, j 209, j 210, j 211, j 212, j 213, j 214, j 215, j 216, j 217, j 218, j 219, j 220, j 221, j 222, j 223, j 224, j 225, j 226, j 227, j 228, j 229, j 230, j 231, j 232, j 233, j 234, j 235, j 236, j 237]) (by kernel_rfl) ?_
 intro j
 refine c_reg ?_
 refine dA hW 0 tyA69 ?_
 have hn3 := (n3.rep.at (show Cl _ ((([_, _, _] ++ B1) ++ B2) ++ B3) _ from hW) ((List.sublist_append_right _ B3)))
 refine l_callX hW (g_Hear (newH 1) p3.a p3.n p3.c r3 q3 ss3 0 (small_of (by kernel_rfl)) (hun_fit hn3 (by decide))) en29 hn3 rfl rfl rfl rfl ?_
 rintro _ B4 W ⟨_, rfl, p4, r4, q4, ss4, rfl, n4⟩ hW
 rw [eg_1] at n4 ⊢
 replace n4 : NewHu eg1 p4 r4 q4 ss4 B4 := n4
 refine l_val (r_move (v := .tuple _) rfl rfl) rfl rfl ?_
 refine l_val (r_extract (v := .agg _) rfl rfl rfl) rfl rfl ?_
 refine l_val (r_extract (v := .int _ _) rfl rfl rfl) rfl rfl ?_
 refine l_alloc hW tyZ69 rfl rfl rfl ?_
 intro g4 W hW
 refine sA hW 0 tyA69 ?_
 intro W hW
 refine bI ?_
 refine l_end (n_then (c_seq (c_reg ?_)))
 refine dA hW 0 tyA69 ?_
 have hn4 := (n4.rep.at (show Cl _ (((([_, _, _, _] ++ B1) ++ B2) ++ B3) ++ B4) _ from hW) ((List.sublist_append_right _ B4)))
 refine l_callX hW (g_Hear eg1 p4.a p4.n p4.c r4 q4 ss4 0 (small_of (by kernel_rfl)) (hun_fit hn4 (by decide))) en29 hn4 rfl rfl rfl rfl ?_
 rintro _ B5 W ⟨_, rfl, p5, r5, q5, ss5, rfl, n5⟩ hW
 rw [eg_2] at n5 ⊢
 replace n5 : NewHu noHunt p5 r5 q5 ss5 B5 := n5
 refine l_val (r_move (v := .tuple _) rfl rfl) rfl rfl ?_
 refine l_val (r_extract (v := .agg _) rfl rfl rfl) rfl rfl ?_
 refine l_val (r_extract (v := .int _ _) rfl rfl rfl) rfl rfl ?_
 refine l_alloc hW tyZ69 rfl rfl rfl ?_
 intro g5 W hW
 refine sA hW 0 tyA69 ?_
 intro W hW
 refine bI ?_
 refine l_end (n_then (c_seq ?_))
 refine c_cut (fun j => [.bool false, j 1, .int .i64 2, j 3, .int .i64 2, .pointer (some ⟨g3, 0, none⟩), .int .i64 0, .pointer (some ⟨g4, 0, none⟩), .int .i64 0, j 9, .int .i64 80, j 11, j 12, j 13, j 14, j 15, j 16, j 17, j 18, j 19, j 20, j 21, j 22, j 23, j 24, j 25, j 26, j 27, j 28, j 29, j 30, j 31, j 32, j 33, j 34, j 35, j 36, j 37, j 38, j 39, j 40, j 41, j 42, j 43, j 44, j 45, j 46, j 47, j 48, j 49, j 50, j 51, j 52, j 53, j 54, j 55, j 56, j 57, j 58, j 59, j 60, j 61, j 62, j 63, j 64, j 65, j 66, j 67, j 68, j 69, j 70, j 71, j 72, j 73, j 74, j 75, j 76, j 77, j 78, j 79, j 80, j 81, j 82, j 83, j 84, j 85, j 86, j 87, j 88, j 89, j 90, j 91, j 92, j 93, j 94, j 95, j 96, j 97, j 98, j 99, j 100, j 101, j 102, j 103, j 104, j 105, j 106, j 107, j 108, j 109, j 110, j 111, j 112, j 113, j 114, j 115, j 116, j 117, j 118, j 119, j 120, j 121, j 122, j 123, j 124, j 125, j 126, j 127, j 128, j 129, j 130, j 131, j 132, j 133, j 134, j 135, j 136, j 137, j 138, j 139, j 140, j 141, j 142, j 143, j 144, j 145, j 146, j 147, j 148, j 149, j 150, j 151, j 152, j 153, j 154, j 155, j 156, j 157, j 158, j 159, j 160, j 161, j 162, j 163, j 164, j 165, j 166, j 167, j 168, j 169, j 170, j 171, j 172, j 173, j 174, j 175, j 176, j 177, j 178, j 179, j 180, j 181, j 182, j 183, j 184, j 185, j 186, j 187, j 188, j 189, j 190, j 191, j 192, j 193, j 194, j 195, j 196, j 197, j 198, j 199, j 200, j 201, j 202, j 203, j 204, j 205, j 206, j 207, j 208, j 209, j 210, j 211, j 212, j 213, j 214, j 215, j 216, j 217, j 218, j 219, j 220, j 221, j 222, j 223, j 224, j 225, j 226, j 227, j 228, j 229, j 230, j 231, j 232, j 233, j 234, j 235, j 236, j 237]) (by kernel_rfl) ?_
 intro j
 refine c_reg ?_
 refine dA hW 2 tyA69 ?_
 have hn3 := (n3.rep.at (show Cl _ ((((([_, _, _, _, _] ++ B1) ++ B2) ++ B3) ++ B4) ++ B5) _ from hW) ((((List.sublist_append_right _ B3).trans (List.sublist_append_left _ B4)).trans (List.sublist_append_left _ B5))))
 refine l_callX hW (g_Hear (newH 1) p3.a p3.n p3.c r3 q3 ss3 1 (small_of (by kernel_rfl)) (hun_fit hn3 (by decide))) en29 hn3 rfl rfl rfl rfl ?_
 rintro _ B6 W ⟨_, rfl, p6, r6, q6, ss6, rfl, n6⟩ hW
 rw [eg_3] at n6 ⊢
 replace n6 : NewHu noHunt p6 r6 q6 ss6 B6 := n6
 refine l_val (r_move (v := .tuple _) rfl rfl) rfl rfl ?_
 refine l_val (r_extract (v := .agg _) rfl rfl rfl) rfl rfl ?_
 refine l_val (r_extract (v := .int _ _) rfl rfl rfl) rfl rfl ?_
 refine l_alloc hW tyZ69 rfl rfl rfl ?_
 intro g6 W hW
 refine sA hW 0 tyA69 ?_
 intro W hW
 refine bI ?_
 refine l_end (n_then (c_seq (c_reg ?_)))
 have kr := g_Rounds 1 1
 rw [eg_r.1.1, eg_r.1.2] at kr
 refine l_call hW kr en30 rfl rfl rfl rfl ?_
 intro W hW
 refine l_val (r_move (v := .tuple _) rfl rfl) rfl rfl ?_
 refine l_val (r_extract (v := .int _ _) rfl rfl rfl) rfl rfl ?_
 refine l_val (r_extract (v := .int _ _) rfl rfl rfl) rfl rfl ?_
 refine bI ?_
 refine bI ?_
 refine l_end (n_then (c_seq (c_reg ?_)))
 have kr := g_Rounds 3 4
 rw [eg_r.2.1, eg_r.2.2] at kr
 refine l_call hW kr en30 rfl rfl rfl rfl ?_
 intro W hW
 refine l_val (r_move (v := .tuple _) rfl rfl) rfl rfl ?_
 refine l_val (r_extract (v := .int _ _) rfl rfl rfl) rfl rfl ?_
 refine l_val (r_extract (v := .int _ _) rfl rfl rfl) rfl rfl ?_
 refine bI ?_
 refine bI ?_
 refine l_end (n_then (c_seq (c_seq ?_)))
 refine c_cut (fun j => [.bool false, j 1, .int .i64 2, j 3, .int .i64 2, j 5, .int .i64 0, .pointer (some ⟨g4, 0, none⟩), .int .i64 0, j 9, .int .i64 80, j 11, .int .i64 80, .int .i64 1, .int .i64 0, j 15, .int .i64 2, j 17, j 18, j 19, j 20, j 21, j 22, j 23, j 24, j 25, j 26, j 27, j 28, j 29, j 30, j 31, j 32, j 33, j 34, j 35, j 36, j 37, j 38, j 39, j 40, j 41, j 42, j 43, j 44, j 45, j 46, j 47, j 48, j 49, j 50, j 51, j 52, j 53, j 54, j 55, j 56, j 57, j 58, j 59, j 60, j 61, j 62, j 63, j 64, j 65, j 66, j 67, j 68, j 69, j 70, j 71, j 72, j 73, j 74, j 75, j 76, j 77, j 78, j 79, j 80, j 81, j 82, j 83, j 84, j 85, j 86, j 87, j 88, j 89, j 90, j 91, j 92, j 93, j 94, j 95, j 96, j 97, j 98, j 99, j 100, j 101, j 102, j 103, j 104, j 105, j 106, j 107, j 108, j 109, j 110, j 111, j 112, j 113, j 114, j 115, j 116, j 117, j 118, j 119, j 120, j 121, j 122, j 123, j 124, j 125, j 126, j 127, j 128, j 129, j 130, j 131, j 132, j 133, j 134, j 135, j 136, j 137, j 138, j 139, j 140, j 141, j 142, j 143, j 144, j 145, j 146, j 147, j 148, j 149, j 150, j 151, j 152, j 153, j 154, j 155, j 156, j 157, j 158, j 159, j 160, j 161, j 162, j 163, j 164, j 165, j 166, j 167, j 168, j 169, j 170, j 171, j 172, j 173, j 174, j 175, j 176, j 177, j 178, j 179, j 180, j 181, j 182, j 183, j 184, j 185, j 186, j 187, j 188, j 189, j 190, j 191, j 192, j 193, j 194, j 195, j 196, j 197, j 198, j 199, j 200, j 201, j 202, j 203, j 204, j 205, j 206, j 207, j 208, j 209, j 210, j 211, j 212, j 213, j 214, j 215, j 216, j 217, j 218, j 219, j 220, j 221, j 222, j 223, j 224, j 225, j 226, j 227, j 228, j 229, j 230, j 231, j 232, j 233, j 234, j 235, j 236, j 237]) (by kernel_rfl) ?_
 intro j
 refine c_reg ?_
 refine aB ?_
 refine l_callRG hW (Pre := fun _ => True) (fun w _ => g_alive w) en31 trivial (by kernel_rfl) rfl rfl rfl ?_
 intro W hW
 refine l_valG (r_not rfl rfl) (by kernel_rfl) rfl ?_
 refine kB ?_
 refine aB ?_
 refine gI ?_
 refine l_valG (r_neq (b := false) rfl rfl rfl (by decide)) (by kernel_rfl) rfl ?_
 refine kB ?_
 refine aB ?_
 refine gI ?_
 refine l_valG (r_neq (b := false) rfl rfl rfl (by decide)) (by kernel_rfl) rfl ?_
 refine kB ?_
 refine aB ?_
 refine gI ?_
 refine l_valG (r_neq (b := false) rfl rfl rfl (by decide)) (by kernel_rfl) rfl ?_
 refine kB ?_
 refine aB ?_
 refine gI ?_
 refine l_valG (r_neq (b := false) rfl rfl rfl (by decide)) (by kernel_rfl) rfl ?_
 refine kB ?_
 refine aB ?_
 refine l_valG (r_fieldAddr 3 Tryz.underlying69 rfl tyC27.size rfl rfl rfl) (by kernel_rfl) rfl ?_
 refine dG hW 2 tyC27 ?_
 refine l_buildSliceFG hW (bsl27_1_0 _) (by kernel_rfl) rfl rfl rfl ?_
 intro gi W hW
 refine l_callRG hW (GivesR.cast (g_is q4.a q4.n q4.c eg1.named (some ⟨gi, 0, none⟩) 1 1 [0] (by rw [show eg1.named = [0] from rfl]; decide)) (congrArg Value.bool (decide_eq_true (show eg1.named = [0] from rfl)))) en32 ⟨(n4.rep.at (show Cl _ (((((([_, _, _, _, _, _, _] ++ B1) ++ B2) ++ B3) ++ B4) ++ B5) ++ B6) _ from hW) ((((List.sublist_append_right _ B4).trans (List.sublist_append_left _ B5)).trans (List.sublist_append_left _ B6)))).named, rd_blk 0 hW rfl rfl (by decide)⟩ (by kernel_rfl) rfl rfl rfl ?_
 intro W hW
 refine l_valG (r_not rfl rfl) (by kernel_rfl) rfl ?_
 refine kB ?_
 refine aB ?_
 refine gI ?_
 refine l_valG (r_neq (b := false) rfl rfl rfl (by decide)) (by kernel_rfl) rfl ?_
 refine kB ?_
 refine aB ?_
 refine gI ?_
 refine l_valG (r_neq (b := false) rfl rfl rfl (by decide)) (by kernel_rfl) rfl ?_
 refine kB ?_
 refine aB ?_
 refine gI ?_
 refine l_valG (r_neq (b := false) rfl rfl rfl (by decide)) (by kernel_rfl) rfl ?_
 refine kB ?_
 refine aB ?_
 refine gI ?_
 refine l_valG (r_neq (b := false) rfl rfl rfl (by decide)) (by kernel_rfl) rfl ?_
 refine kB ?_
 refine aB ?_
 refine gI ?_
 refine l_valG (r_neq (b := false) rfl rfl rfl (by decide)) (by kernel_rfl) rfl ?_
 refine kB ?_
 refine l_end (n_then ?_)
 refine c_false rfl ?_
 refine c_skip (n_then (c_seq ?_))
 replace hW := (show Cl _ (((((([_, _, _, _, _, _, _] ++ B1) ++ B2) ++ B3) ++ B4) ++ B5) ++ B6) _ from hW).sub (L' := []) (List.Sublist.trans (List.Sublist.trans (List.Sublist.trans (List.Sublist.trans (List.Sublist.trans (List.Sublist.trans (.cons _ (.cons _ (.cons _ (.cons _ (.cons _ (.cons _ (.cons _ List.Sublist.slnil))))))) (List.sublist_append_left _ B1)) (List.sublist_append_left _ B2)) (List.sublist_append_left _ B3)) (List.sublist_append_left _ B4)) (List.sublist_append_left _ B5)) (List.sublist_append_left _ B6))
 refine c_cut (fun j => [.bool false, j 1, .int .i64 2, j 3, .int .i64 2, j 5, .int .i64 0, j 7, .int .i64 0, j 9, .int .i64 80, j 11, .int .i64 80, j 13, j 14, j 15, j 16, j 17, j 18, j 19, j 20, j 21, j 22, j 23, j 24, j 25, j 26, j 27, j 28, j 29, j 30, j 31, j 32, j 33, j 34, j 35, j 36, j 37, j 38, j 39, j 40, j 41, j 42, j 43, j 44, j 45, j 46, j 47, j 48, j 49, j 50, j 51, j 52, j 53, j 54, j 55, j 56, j 57, j 58, j 59, j 60, j 61, j 62, j 63, j 64, j 65, j 66, j 67, j 68, j 69, j 70, j 71, j 72, j 73, j 74, j 75, j 76, j 77, j 78, j 79, j 80, j 81, j 82, j 83, j 84, j 85, j 86, j 87, j 88, j 89, j 90, j 91, j 92, j 93, j 94, j 95, j 96, j 97, j 98, j 99, j 100, j 101, j 102, j 103, j 104, j 105, j 106, j 107, j 108, j 109, j 110, j 111, .bool false, j 113, j 114, j 115, j 116, j 117, j 118, j 119, j 120, j 121, j 122, j 123, j 124, j 125, j 126, j 127, j 128, j 129, j 130, j 131, j 132, j 133, j 134, j 135, j 136, j 137, j 138, j 139, j 140, j 141, j 142, j 143, j 144, j 145, j 146, j 147, j 148, j 149, j 150, j 151, j 152, j 153, j 154, j 155, j 156, j 157, j 158, j 159, j 160, j 161, j 162, j 163, j 164, j 165, j 166, j 167, j 168, j 169, j 170, j 171, j 172, j 173, j 174, j 175, j 176, j 177, j 178, j 179, j 180, j 181, j 182, j 183, j 184, j 185, j 186, j 187, j 188, j 189, j 190, j 191, j 192, j 193, j 194, j 195, j 196, j 197, j 198, j 199, j 200, j 201, j 202, j 203, j 204, j 205, j 206, j 207, j 208, j 209, j 210, j 211, j 212, j 213, j 214, j 215, j 216, j 217, j 218, j 219, j 220, j 221, j 222, j 223, j 224, j 225, j 226, j 227, j 228, j 229, j 230, j 231, j 232, j 233, j 234, j 235, j 236, j 237]) (by kernel_rfl) ?_
 intro j
 refine c_reg ?_
 refine l_callX hW (g_three 5) en33 trivial rfl rfl rfl rfl ?_
 rintro _ B11 W ⟨s11, rfl, n11⟩ hW
 refine l_alloc hW tyZ31 rfl rfl rfl ?_
 intro g7 W hW
 refine sA hW 0 tyA31 ?_
 intro W hW
 refine l_end (n_then (c_seq ?_))
 replace hW := (show Cl _ ([_] ++ B11) _ from hW).sub (L' := ([_] ++ B11)) (List.Sublist.append_right (.cons_cons _ List.Sublist.slnil) B11)
 refine c_cut (fun j => [.bool false, j 1, .int .i64 2, j 3, .int .i64 2, j 5, .int .i64 0, j 7, .int .i64 0, j 9, .int .i64 80, j 11, .int .i64 80, j 13, j 14, j 15, j 16, .pointer (some ⟨g7, 0, none⟩), j 18, j 19, j 20, j 21, j 22, j 23, j 24, j 25, j 26, j 27, j 28, j 29, j 30, j 31, j 32, j 33, j 34, j 35, j 36, j 37, j 38, j 39, j 40, j 41, j 42, j 43, j 44, j 45, j 46, j 47, j 48, j 49, j 50, j 51, j 52, j 53, j 54, j 55, j 56, j 57, j 58, j 59, j 60, j 61, j 62, j 63, j 64, j 65, j 66, j 67, j 68, j 69, j 70, j 71, j 72, j 73, j 74, j 75, j 76, j 77, j 78, j 79, j 80, j 81, j 82, j 83, j 84, j 85, j 86, j 87, j 88, j 89, j 90, j 91, j 92, j 93, j 94, j 95, j 96, j 97, j 98, j 99, j 100, j 101, j 102, j 103, j 104, j 105, j 106, j 107, j 108, j 109, j 110, j 111, .bool false, j 113, j 114, j 115, j 116, j 117, j 118, j 119, j 120, j 121, j 122, j 123, j 124, j 125, j 126, j 127, j 128, j 129, j 130, j 131, j 132, j 133, j 134, j 135, j 136, j 137, j 138, j 139, j 140, j 141, j 142, j 143, j 144, j 145, j 146, j 147, j 148, j 149, j 150, j 151, j 152, j 153, j 154, j 155, j 156, j 157, j 158, j 159, j 160, j 161, j 162, j 163, j 164, j 165, j 166, j 167, j 168, j 169, j 170, j 171, j 172, j 173, j 174, j 175, j 176, j 177, j 178, j 179, j 180, j 181, j 182, j 183, j 184, j 185, j 186, j 187, j 188, j 189, j 190, j 191, j 192, j 193, j 194, j 195, j 196, j 197, j 198, j 199, j 200, j 201, j 202, j 203, j 204, j 205, j 206, j 207, j 208, j 209, j 210, j 211, j 212, j 213, j 214, j 215, j 216, j 217, j 218, j 219, j 220, j 221, j 222, j 223, j 224, j 225, j 226, j 227, j 228, j 229, j 230, j 231, j 232, j 233, j 234, j 235, j 236, j 237]) (by kernel_rfl) ?_
 intro j
 refine c_reg ?_
 refine l_callX hW (g_three 2) en33 trivial rfl rfl rfl rfl ?_
 rintro _ BD12 W ⟨sD12, rfl, nD12⟩ hW
 refine l_buildSliceF hW (bsl27_2_0_1 _ _) rfl rfl rfl rfl ?_
 intro gi W hW
 refine l_callX hW (g_parts (some ⟨gi, 0, none⟩) 2 2 [2, 3] (by decide)) en35 (rd_blk 0 hW rfl rfl (by decide)) rfl rfl rfl rfl ?_
 rintro _ BE12 W ⟨aD12, cD12, rfl, oD12⟩ hW
 refine l_callX hW (g_Ask (thB 2) sD12 aD12 2 cD12 (nodeL [2, 3]) 1 (by decide) (by decide)) en34 ⟨(nD12.rep.at (show Cl _ ((([_, _] ++ B11) ++ BD12) ++ BE12) _ from hW) (((List.sublist_append_right _ BD12).trans (List.sublist_append_left _ BE12)))), (oD12.repB.at (show Cl _ ((([_, _] ++ B11) ++ BD12) ++ BE12) _ from hW) ((List.sublist_append_right _ BE12)))⟩ rfl rfl rfl rfl ?_
 rintro _ BF12 W ⟨sF12, rfl, nF12⟩ hW
 rw [ed_2.1, ed_2.2]
 refine l_val (r_move (v := .tuple _) rfl rfl) rfl rfl ?_
 refine l_val (r_extract (v := .agg _) rfl rfl rfl) rfl rfl ?_
 refine l_val (r_extract (v := .bool _) rfl rfl rfl) rfl rfl ?_
 refine l_val (r_extract (v := .int _ _) rfl rfl rfl) rfl rfl ?_
 refine l_alloc hW tyZ31 rfl rfl rfl ?_
 intro g8 W hW
 refine sA hW 0 tyA31 ?_
 intro W hW
 refine bB ?_
 refine bI ?_
 refine l_end (n_then (c_seq ?_))
 replace hW := (show Cl _ (((([_, _, _] ++ B11) ++ BD12) ++ BE12) ++ BF12) _ from hW).sub (L' := ([_] ++ B11)) (List.Sublist.trans (List.Sublist.trans (List.Sublist.trans (List.Sublist.append_right (.cons _ (.cons _ (.cons_cons _ List.Sublist.slnil))) B11) (List.sublist_append_left _ BD12)) (List.sublist_append_left _ BE12)) (List.sublist_append_left _ BF12))
 refine c_cut (fun j => [.bool false, j 1, .int .i64 0, j 3, .int .i64 2, j 5, .int .i64 0, j 7, .int .i64 0, j 9, .int .i64 80, j 11, .int .i64 80, j 13, j 14, j 15, j 16, .pointer (some ⟨g7, 0, none⟩), j 18, .bool false, j 20, j 21, j 22, j 23, j 24, j 25, j 26, j 27, j 28, j 29, j 30, j 31, j 32, j 33, j 34, j 35, j 36, j 37, j 38, j 39, j 40, j 41, j 42, j 43, j 44, j 45, j 46, j 47, j 48, j 49, j 50, j 51, j 52, j 53, j 54, j 55, j 56, j 57, j 58, j 59, j 60, j 61, j 62, j 63, j 64, j 65, j 66, j 67, j 68, j 69, j 70, j 71, j 72, j 73, j 74, j 75, j 76, j 77, j 78, j 79, j 80, j 81, j 82, j 83, j 84, j 85, j 86, j 87, j 88, j 89, j 90, j 91, j 92, j 93, j 94, j 95, j 96, j 97, j 98, j 99, j 100, j 101, j 102, j 103, j 104, j 105, j 106, j 107, j 108, j 109, j 110, j 111, .bool false, j 113, j 114, j 115, j 116, j 117, j 118, j 119, j 120, j 121, j 122, j 123, j 124, j 125, j 126, j 127, j 128, j 129, j 130, j 131, j 132, j 133, j 134, j 135, j 136, j 137, j 138, j 139, j 140, j 141, j 142, j 143, j 144, j 145, j 146, j 147, j 148, j 149, j 150, j 151, j 152, j 153, j 154, j 155, j 156, j 157, j 158, j 159, j 160, j 161, j 162, j 163, j 164, j 165, j 166, j 167, j 168, j 169, j 170, j 171, j 172, j 173, j 174, j 175, j 176, j 177, j 178, j 179, j 180, j 181, j 182, j 183, j 184, j 185, j 186, j 187, j 188, j 189, j 190, j 191, j 192, j 193, j 194, j 195, j 196, j 197, j 198, j 199, j 200, j 201, j 202, j 203, j 204, j 205, j 206, j 207, j 208, j 209, j 210, j 211, j 212, j 213, j 214, j 215, j 216, j 217, j 218, j 219, j 220, j 221, j 222, j 223, j 224, j 225, j 226, j 227, j 228, j 229, j 230, j 231, j 232, j 233, j 234, j 235, j 236, j 237]) (by kernel_rfl) ?_
 intro j
 refine c_reg ?_
 refine l_callX hW (g_three 3) en33 trivial rfl rfl rfl rfl ?_
 rintro _ BD13 W ⟨sD13, rfl, nD13⟩ hW
 refine l_buildSliceF hW (bsl27_2_0_1 _ _) rfl rfl rfl rfl ?_
 intro gi W hW
 refine l_callX hW (g_parts (some ⟨gi, 0, none⟩) 2 2 [2, 3] (by decide)) en35 (rd_blk 0 hW rfl rfl (by decide)) rfl rfl rfl rfl ?_
 rintro _ BE13 W ⟨aD13, cD13, rfl, oD13⟩ hW
 refine l_callX hW (g_Ask (thB 3) sD13 aD13 2 cD13 (nodeL [2, 3]) 2 (by decide) (by decide)) en34 ⟨(nD13.rep.at (show Cl _ ((([_, _] ++ B11) ++ BD13) ++ BE13) _ from hW) (((List.sublist_append_right _ BD13).trans (List.sublist_append_left _ BE13)))), (oD13.repB.at (show Cl _ ((([_, _] ++ B11) ++ BD13) ++ BE13) _ from hW) ((List.sublist_append_right _ BE13)))⟩ rfl rfl rfl rfl ?_
 rintro _ BF13 W ⟨sF13, rfl, nF13⟩ hW
 rw [ed_3.1, ed_3.2]
 refine l_val (r_move (v := .tuple _) rfl rfl) rfl rfl ?_
 refine l_val (r_extract (v := .agg _) rfl rfl rfl) rfl rfl ?_
 refine l_val (r_extract (v := .bool _) rfl rfl rfl) rfl rfl ?_
 refine l_val (r_extract (v := .int _ _) rfl rfl rfl) rfl rfl ?_
 refine l_alloc hW tyZ31 rfl rfl rfl ?_
 intro g9 W hW
 refine sA hW 0 tyA31 ?_
 intro W hW
 refine bB ?_
 refine bI ?_
 refine l_end (n_then (c_seq ?_))
 replace hW := (show Cl _ (((([_, _, _] ++ B11) ++ BD13) ++ BE13) ++ BF13) _ from hW).sub (L' := ([_] ++ B11)) (List.Sublist.trans (List.Sublist.trans (List.Sublist.trans (List.Sublist.append_right (.cons _ (.cons _ (.cons_cons _ List.Sublist.slnil))) B11) (List.sublist_append_left _ BD13)) (List.sublist_append_left _ BE13)) (List.sublist_append_left _ BF13))
 refine c_cut (fun j => [.bool false, j 1, .int .i64 0, j 3, .int .i64 0, j 5, .int .i64 0, j 7, .int .i64 0, j 9, .int .i64 80, j 11, .int .i64 80, j 13, j 14, j 15, j 16, .pointer (some ⟨g7, 0, none⟩), j 18, .bool false, j 20, .bool false, j 22, j 23, j 24, j 25, j 26, j 27, j 28, j 29, j 30, j 31, j 32, j 33, j 34, j 35, j 36, j 37, j 38, j 39, j 40, j 41, j 42, j 43, j 44, j 45, j 46, j 47, j 48, j 49, j 50, j 51, j 52, j 53, j 54, j 55, j 56, j 57, j 58, j 59, j 60, j 61, j 62, j 63, j 64, j 65, j 66, j 67, j 68, j 69, j 70, j 71, j 72, j 73, j 74, j 75, j 76, j 77, j 78, j 79, j 80, j 81, j 82, j 83, j 84, j 85, j 86, j 87, j 88, j 89, j 90, j 91, j 92, j 93, j 94, j 95, j 96, j 97, j 98, j 99, j 100, j 101, j 102, j 103, j 104, j 105, j 106, j 107, j 108, j 109, j 110, j 111, .bool false, j 113, j 114, j 115, j 116, j 117, j 118, j 119, j 120, j 121, j 122, j 123, j 124, j 125, j 126, j 127, j 128, j 129, j 130, j 131, j 132, j 133, j 134, j 135, j 136, j 137, j 138, j 139, j 140, j 141, j 142, j 143, j 144, j 145, j 146, j 147, j 148, j 149, j 150, j 151, j 152, j 153, j 154, j 155, j 156, j 157, j 158, j 159, j 160, j 161, j 162, j 163, j 164, j 165, j 166, j 167, j 168, j 169, j 170, j 171, j 172, j 173, j 174, j 175, j 176, j 177, j 178, j 179, j 180, j 181, j 182, j 183, j 184, j 185, j 186, j 187, j 188, j 189, j 190, j 191, j 192, j 193, j 194, j 195, j 196, j 197, j 198, j 199, j 200, j 201, j 202, j 203, j 204, j 205, j 206, j 207, j 208, j 209, j 210, j 211, j 212, j 213, j 214, j 215, j 216, j 217, j 218, j 219, j 220, j 221, j 222, j 223, j 224, j 225, j 226, j 227, j 228, j 229, j 230, j 231, j 232, j 233, j 234, j 235, j 236, j 237]) (by kernel_rfl) ?_
 intro j
 refine c_reg ?_
 refine l_callX hW (g_three 2) en33 trivial rfl rfl rfl rfl ?_
 rintro _ BD14 W ⟨sD14, rfl, nD14⟩ hW
 refine l_buildSliceF hW (bsl27_2_0_1 _ _) rfl rfl rfl rfl ?_
 intro gi W hW
 refine l_callX hW (g_parts (some ⟨gi, 0, none⟩) 2 2 [2, 3] (by decide)) en35 (rd_blk 0 hW rfl rfl (by decide)) rfl rfl rfl rfl ?_
 rintro _ BE14 W ⟨aD14, cD14, rfl, oD14⟩ hW
 refine l_callX hW (g_Ask (thB 2) sD14 aD14 2 cD14 (nodeL [2, 3]) 0 (by decide) (by decide)) en34 ⟨(nD14.rep.at (show Cl _ ((([_, _] ++ B11) ++ BD14) ++ BE14) _ from hW) (((List.sublist_append_right _ BD14).trans (List.sublist_append_left _ BE14)))), (oD14.repB.at (show Cl _ ((([_, _] ++ B11) ++ BD14) ++ BE14) _ from hW) ((List.sublist_append_right _ BE14)))⟩ rfl rfl rfl rfl ?_
 rintro _ BF14 W ⟨sF14, rfl, nF14⟩ hW
 rw [ed_4.1, ed_4.2]
 refine l_val (r_move (v := .tuple _) rfl rfl) rfl rfl ?_
 refine l_val (r_extract (v := .agg _) rfl rfl rfl) rfl rfl ?_
 refine l_val (r_extract (v := .bool _) rfl rfl rfl) rfl rfl ?_
 refine l_val (r_extract (v := .int _ _) rfl rfl rfl) rfl rfl ?_
 refine l_alloc hW tyZ31 rfl rfl rfl ?_
 intro g10 W hW
 refine sA hW 0 tyA31 ?_
 intro W hW
 refine bB ?_
 refine bI ?_
 refine l_end (n_then (c_seq ?_))
 replace hW := (show Cl _ (((([_, _, _] ++ B11) ++ BD14) ++ BE14) ++ BF14) _ from hW).sub (L' := ([_] ++ B11)) (List.Sublist.trans (List.Sublist.trans (List.Sublist.trans (List.Sublist.append_right (.cons _ (.cons _ (.cons_cons _ List.Sublist.slnil))) B11) (List.sublist_append_left _ BD14)) (List.sublist_append_left _ BE14)) (List.sublist_append_left _ BF14))
 refine c_cut (fun j => [.bool false, j 1, .int .i64 0, j 3, .int .i64 0, j 5, .int .i64 0, j 7, .int .i64 0, j 9, .int .i64 80, j 11, .int .i64 80, j 13, j 14, j 15, j 16, .pointer (some ⟨g7, 0, none⟩), j 18, .bool false, j 20, .bool false, j 22, .bool true, j 24, j 25, j 26, j 27, j 28, j 29, j 30, j 31, j 32, j 33, j 34, j 35, j 36, j 37, j 38, j 39, j 40, j 41, j 42, j 43, j 44, j 45, j 46, j 47, j 48, j 49, j 50, j 51, j 52, j 53, j 54, j 55, j 56, j 57, j 58, j 59, j 60, j 61, j 62, j 63, j 64, j 65, j 66, j 67, j 68, j 69, j 70, j 71, j 72, j 73, j 74, j 75, j 76, j 77, j 78, j 79, j 80, j 81, j 82, j 83, j 84, j 85, j 86, j 87, j 88, j 89, j 90, j 91, j 92, j 93, j 94, j 95, j 96, j 97, j 98, j 99, j 100, j 101, j 102, j 103, j 104, j 105, j 106, j 107, j 108, j 109, j 110, j 111, .bool false, j 113, j 114, j 115, j 116, j 117, j 118, j 119, j 120, j 121, j 122, j 123, j 124, j 125, j 126, j 127, j 128, j 129, j 130, j 131, j 132, j 133, j 134, j 135, j 136, j 137, j 138, j 139, j 140, j 141, j 142, j 143, j 144, j 145, j 146, j 147, j 148, j 149, j 150, j 151, j 152, j 153, j 154, j 155, j 156, j 157, j 158, j 159, j 160, j 161, j 162, j 163, j 164, j 165, j 166, j 167, j 168, j 169, j 170, j 171, j 172, j 173, j 174, j 175, j 176, j 177, j 178, j 179, j 180, j 181, j 182, j 183, j 184, j 185, j 186, j 187, j 188, j 189, j 190, j 191, j 192, j 193, j 194, j 195, j 196, j 197, j 198, j 199, j 200, j 201, j 202, j 203, j 204, j 205, j 206, j 207, j 208, j 209, j 210, j 211, j 212, j 213, j 214, j 215, j 216, j 217, j 218, j 219, j 220, j 221, j 222, j 223, j 224, j 225, j 226, j 227, j 228, j 229, j 230, j 231, j 232, j 233, j 234, j 235, j 236, j 237]) (by kernel_rfl) ?_
 intro j
 refine c_reg ?_
 refine l_callX hW (g_three 3) en33 trivial rfl rfl rfl rfl ?_
 rintro _ BM W ⟨sM, rfl, nM⟩ hW
 refine l_alloc hW tyZ31 rfl rfl rfl ?_
 intro g11 W hW
 refine sA hW 0 tyA31 ?_
 intro W hW
 refine l_end (n_then (c_seq (c_reg ?_)))
 refine l_val (r_fieldAddr 9 Tryz.underlying31 rfl tyC3.size rfl rfl rfl) rfl rfl ?_
 refine l_storeC hW 0 tyC3 (v := .int .i64 1) rfl rfl rfl rfl rfl rfl (by rw [boC_len]; decide) rfl ?_
 intro W hW
 replace hW := (show Cl _ (([⟨_, (boC (thB 3) sM).set 9 (.int .i64 1), _⟩, _] ++ B11) ++ BM) _ from hW)
 rw [boC_setV] at hW
 refine l_end (n_then (c_seq ?_))
 replace hW := (show Cl _ (([_, _] ++ B11) ++ BM) _ from hW).sub (L' := (([_, _] ++ B11) ++ BM)) (List.Sublist.append_right (List.Sublist.append_right (.cons_cons _ (.cons_cons _ List.Sublist.slnil)) B11) BM)
 refine c_cut (fun j => [.bool false, j 1, .int .i64 0, j 3, .int .i64 0, j 5, .int .i64 0, j 7, .int .i64 0, j 9, .int .i64 80, j 11, .int .i64 80, j 13, j 14, j 15, j 16, .pointer (some ⟨g7, 0, none⟩), j 18, .bool false, j 20, .bool false, j 22, .bool true, .pointer (some ⟨g11, 0, none⟩), j 25, j 26, j 27, j 28, j 29, j 30, j 31, j 32, j 33, j 34, j 35, j 36, j 37, j 38, j 39, j 40, j 41, j 42, j 43, j 44, j 45, j 46, j 47, j 48, j 49, j 50, j 51, j 52, j 53, j 54, j 55, j 56, j 57, j 58, j 59, j 60, j 61, j 62, j 63, j 64, j 65, j 66, j 67, j 68, j 69, j 70, j 71, j 72, j 73, j 74, j 75, j 76, j 77, j 78, j 79, j 80, j 81, j 82, j 83, j 84, j 85, j 86, j 87, j 88, j 89, j 90, j 91, j 92, j 93, j 94, j 95, j 96, j 97, j 98, j 99, j 100, j 101, j 102, j 103, j 104, j 105, j 106, j 107, j 108, j 109, j 110, j 111, .bool false, j 113, j 114, j 115, j 116, j 117, j 118, j 119, j 120, j 121, j 122, j 123, j 124, j 125, j 126, j 127, j 128, j 129, j 130, j 131, j 132, j 133, j 134, j 135, j 136, j 137, j 138, j 139, j 140, j 141, j 142, j 143, j 144, j 145, j 146, j 147, j 148, j 149, j 150, j 151, j 152, j 153, j 154, j 155, j 156, j 157, j 158, j 159, j 160, j 161, j 162, j 163, j 164, j 165, j 166, j 167, j 168, j 169, j 170, j 171, j 172, j 173, j 174, j 175, j 176, j 177, j 178, j 179, j 180, j 181, j 182, j 183, j 184, j 185, j 186, j 187, j 188, j 189, j 190, j 191, j 192, j 193, j 194, j 195, j 196, j 197, j 198, j 199, j 200, j 201, j 202, j 203, j 204, j 205, j 206, j 207, j 208, j 209, j 210, j 211, j 212, j 213, j 214, j 215, j 216, j 217, j 218, j 219, j 220, j 221, j 222, j 223, j 224, j 225, j 226, j 227, j 228, j 229, j 230, j 231, j 232, j 233, j 234, j 235, j 236, j 237]) (by kernel_rfl) ?_
 intro j
 refine c_join (fun a W => ∃ (GX : Nat) (sM17 : Sl) (BM17 : List Blk) (j : Nat → Value), a = fr [.bool false, j 1, .int .i64 0, j 3, .int .i64 0, j 5, .int .i64 0, j 7, .int .i64 0, j 9, .int .i64 80, j 11, .int .i64 80, j 13, j 14, j 15, j 16, .pointer (some ⟨g7, 0, none⟩), j 18, .bool false, j 20, .bool false, j 22, .bool true, j 24, .pointer (some ⟨GX, 0, none⟩), .bool true, j 27, j 28, j 29, j 30, j 31, j 32, j 33, j 34, j 35, j 36, j 37, j 38, j 39, j 40, j 41, j 42, j 43, j 44, j 45, j 46, j 47, j 48, j 49, j 50, j 51, j 52, j 53, j 54, j 55, j 56, j 57, j 58, j 59, j 60, j 61, j 62, j 63, j 64, j 65, j 66, j 67, j 68, j 69, j 70, j 71, j 72, j 73, j 74, j 75, j 76, j 77, j 78, j 79, j 80, j 81, j 82, j 83, j 84, j 85, j 86, j 87, j 88, j 89, j 90, j 91, j 92, j 93, j 94, j 95, j 96, j 97, j 98, j 99, j 100, j 101, j 102, j 103, j 104, j 105, j 106, j 107, j 108, j 109, j 110, j 111, .bool false, j 113, j 114, j 115, j 116, j 117, j 118, j 119, j 120, j 121, j 122, j 123, j 124, j 125, j 126, j 127, j 128, j 129, j 130, j 131, j 132, j 133, j 134, j 135, j 136, j 137, j 138, j 139, j 140, j 141, j 142, j 143, j 144, j 145, j 146, j 147, j 148, j 149, j 150, j 151, j 152, j 153, j 154, j 155, j 156, j 157, j 158, j 159, j 160, j 161, j 162, j 163, j 164, j 165, j 166, j 167, j 168, j 169, j 170, j 171, j 172, j 173, j 174, j 175, j 176, j 177, j 178, j 179, j 180, j 181, j 182, j 183, j 184, j 185, j 186, j 187, j 188, j 189, j 190, j 191, j 192, j 193, j 194, j 195, j 196, j 197, j 198, j 199, j 200, j 201, j 202, j 203, j 204, j 205, j 206, j 207, j 208, j 209, j 210, j 211, j 212, j 213, j 214, j 215, j 216, j 217, j 218, j 219, j 220, j 221, j 222, j 223, j 224, j 225, j 226, j 227, j 228, j 229, j 230, j 231, j 232, j 233, j 234, j 235, j 236, j 237] [] [] ∧ Cl (base w) ((⟨GX, (boC mB1 sM17), 31⟩ :: (([⟨g11, (boC mB0 sM), 31⟩, ⟨g7, boC (thB 5) s11, 31⟩] ++ B11) ++ BM)) ++ BM17) W ∧ NewI sM17 mB1.l BM17) ?_ ?_
 ·skip
  refine c_regVB hW [] [.q, .mk 0, .mkd 1 0, .tail, .tail, .tail, .tail, .tail, .tail, .tail, .tail, .tail] [⟨142, bslX 3 2⟩, ⟨143, fun _ v Bs => ∃ (a : Option Addr) (c : Nat), v = .slice a 2 c ∧ OwnSl 64 2 a 2 c (sl2 (nodeL [2, 3])) Bs⟩] [[.int .i64 2, .int .i64 3], []] [1, 2] [0, 0, 2, 7, 15, 31, 31, 31, 0, 319, 895, 2047] [0, 1, 2] [3, 4, 5, 6, 7, 9, 10, 11] 8 25 #[true, true, true, false, false, false, false, false, false, false, false, false] (by kernel_rfl) (by kernel_rfl) rfl (by kernel_rfl) rfl (al_agg tyZ31 rfl) ?_
  refine y_loadA 0 tyA31 rfl rfl rfl rfl rfl (by first | rfl | exact kc_len _ | exact kcf_len _ | exact boC_len _ _ | (simp; done)) (by decide) ?_
  refine y_buildSliceF 0 (bsl27_2_0_1 _ _) rfl rfl rfl rfl ?_
  refine y_callXs 1 0 en35 rfl rfl rfl rfl ?_ rfl ?_
  ·rintro _ _ L2 hS ⟨g2, rfl, rfl⟩
   exact ⟨_, _, g_parts (some ⟨g2, 0, none⟩) 2 2 [2, 3] (by decide), fun w hC => rd_blk (e := 3) (g := g2) (l := [2, 3]) L2.length hC (by rw [List.getElem?_append_right (Nat.le_refl _), Nat.sub_self]; rfl) rfl (by decide), rfl⟩
  refine y_tail ?_
  refine y_made ?_
  rintro _ _ ⟨gm17, rfl, rfl⟩
  refine y_made ?_
  rintro _ BQ17 ⟨aM17, cM17, rfl, oM17⟩
  refine ⟨fun g12 W hW => ?_, fun W hW => ?_⟩
  ·rw [put_st]
   replace hW := pickQ hW
   refine aw1 3 (by kernel_rfl) rfl ?_
   refine l_callX hW (g_Ask mB0 sM aM17 2 cM17 (nodeL [2, 3]) 1 (by decide) (by decide)) en34 ⟨(nM.rep.at (show Cl _ ((([_, _, _, _] ++ B11) ++ BM) ++ BQ17) _ from hW) (((List.sublist_append_right _ BM).trans (List.sublist_append_left _ BQ17)))), (oM17.repB.at (show Cl _ ((([_, _, _, _] ++ B11) ++ BM) ++ BQ17) _ from hW) ((List.sublist_append_right _ BQ17)))⟩ rfl rfl rfl rfl ?_
   rintro _ BM17 W ⟨sM17, rfl, nM17⟩ hW
   rw [em_0.1, em_0.2]
   refine l_end (n_A ?_)
   refine aw1 4 (by kernel_rfl) rfl ?_
   refine l_val (r_move (v := .tuple _) rfl rfl) rfl rfl ?_
   refine l_end (n_A ?_)
   refine awt 5 (by kernel_rfl) (by kernel_rfl) (by kernel_rfl) rfl rfl (r_extract (v := .agg _) rfl rfl rfl) (by kernel_rfl) (fun _ _ _ h => h) ?_
   refine awt 6 (by kernel_rfl) (by kernel_rfl) (by kernel_rfl) rfl rfl (r_extract (v := .bool _) rfl rfl rfl) (by kernel_rfl) (fun _ _ _ h => h) ?_
   refine awt 7 (by kernel_rfl) (by kernel_rfl) (by kernel_rfl) rfl rfl (r_extract (v := .int _ _) rfl rfl rfl) (by kernel_rfl) (fun _ _ _ h => h) ?_
   refine aw1 9 (by kernel_rfl) rfl ?_
   refine sA hW 0 tyA31 ?_
   intro W hW
   refine l_end (n_A ?_)
   refine aw1 10 (by kernel_rfl) rfl ?_
   refine bB ?_
   refine l_end (n_A ?_)
   refine aw1 11 (by kernel_rfl) rfl ?_
   refine bI ?_
   refine l_end (n_A ?_)
   refine aw0 (by kernel_rfl) ?_
   refine n_A ?_
   exact ⟨g12, sM17, BM17, _, fr_eq (F := fun j => [.bool false, j 1, .int .i64 0, j 3, .int .i64 0, j 5, .int .i64 0, j 7, .int .i64 0, j 9, .int .i64 80, j 11, .int .i64 80, j 13, j 14, j 15, j 16, .pointer (some ⟨g7, 0, none⟩), j 18, .bool false, j 20, .bool false, j 22, .bool true, j 24, .pointer (some ⟨g12, 0, none⟩), .bool true, j 27, j 28, j 29, j 30, j 31, j 32, j 33, j 34, j 35, j 36, j 37, j 38, j 39, j 40, j 41, j 42, j 43, j 44, j 45, j 46, j 47, j 48, j 49, j 50, j 51, j 52, j 53, j 54, j 55, j 56, j 57, j 58, j 59, j 60, j 61, j 62, j 63, j 64, j 65, j 66, j 67, j 68, j 69, j 70, j 71, j 72, j 73, j 74, j 75, j 76, j 77, j 78, j 79, j 80, j 81, j 82, j 83, j 84, j 85, j 86, j 87, j 88, j 89, j 90, j 91, j 92, j 93, j 94, j 95, j 96, j 97, j 98, j 99, j 100, j 101, j 102, j 103, j 104, j 105, j 106, j 107, j 108, j 109, j 110, j 111, .bool false, j 113, j 114, j 115, j 116, j 117, j 118, j 119, j 120, j 121, j 122, j 123, j 124, j 125, j 126, j 127, j 128, j 129, j 130, j 131, j 132, j 133, j 134, j 135, j 136, j 137, j 138, j 139, j 140, j 141, j 142, j 143, j 144, j 145, j 146, j 147, j 148, j 149, j 150, j 151, j 152, j 153, j 154, j 155, j 156, j 157, j 158, j 159, j 160, j 161, j 162, j 163, j 164, j 165, j 166, j 167, j 168, j 169, j 170, j 171, j 172, j 173, j 174, j 175, j 176, j 177, j 178, j 179, j 180, j 181, j 182, j 183, j 184, j 185, j 186, j 187, j 188, j 189, j 190, j 191, j 192, j 193, j 194, j 195, j 196, j 197, j 198, j 199, j 200, j 201, j 202, j 203, j 204, j 205, j 206, j 207, j 208, j 209, j 210, j 211, j 212, j 213, j 214, j 215, j 216, j 217, j 218, j 219, j 220, j 221, j 222, j 223, j 224, j 225, j 226, j 227, j 228, j 229, j 230, j 231, j 232, j 233, j 234, j 235, j 236, j 237]) (by kernel_rfl), pickJ (show Cl _ (((_ :: _ :: (([_, _] ++ B11) ++ BM)) ++ BQ17) ++ BM17) _ from hW), nM17⟩
  replace hW := hW.perm List.perm_append_comm
  refine awn [3, 8] (by kernel_rfl) (by simp) ⟨⟨_, rfl, ?_⟩, ⟨_, rfl, ?_⟩, trivial⟩
  ·skip
   refine l_callX hW (g_Ask mB0 sM aM17 2 cM17 (nodeL [2, 3]) 1 (by decide) (by decide)) en34 ⟨(nM.rep.at (show Cl _ ((([_, _, _] ++ B11) ++ BM) ++ BQ17) _ from hW) (((List.sublist_append_right _ BM).trans (List.sublist_append_left _ BQ17)))), (oM17.repB.at (show Cl _ ((([_, _, _] ++ B11) ++ BM) ++ BQ17) _ from hW) ((List.sublist_append_right _ BQ17)))⟩ rfl rfl rfl rfl ?_
   rintro _ BM17 W ⟨sM17, rfl, nM17⟩ hW
   rw [em_0.1, em_0.2]
   refine l_end (n_A ?_)
   refine awt 4 (by kernel_rfl) (by kernel_rfl) (by kernel_rfl) rfl rfl (r_move (v := .tuple _) rfl rfl) (by kernel_rfl) (fun _ _ _ h => h) ?_
   refine awt 5 (by kernel_rfl) (by kernel_rfl) (by kernel_rfl) rfl rfl (r_extract (v := .agg _) rfl rfl rfl) (by kernel_rfl) (fun _ _ _ h => h) ?_
   refine awt 6 (by kernel_rfl) (by kernel_rfl) (by kernel_rfl) rfl rfl (r_extract (v := .bool _) rfl rfl rfl) (by kernel_rfl) (fun _ _ _ h => h) ?_
   refine awt 7 (by kernel_rfl) (by kernel_rfl) (by kernel_rfl) rfl rfl (r_extract (v := .int _ _) rfl rfl rfl) (by kernel_rfl) (fun _ _ _ h => h) ?_
   refine aw1 8 (by kernel_rfl) rfl ?_
   refine l_alloc hW tyZ31 rfl rfl rfl ?_
   intro g13 W hW
   refine l_end (n_A ?_)
   refine aw1 9 (by kernel_rfl) rfl ?_
   refine sA hW 0 tyA31 ?_
   intro W hW
   refine l_end (n_A ?_)
   refine aw1 10 (by kernel_rfl) rfl ?_
   refine bB ?_
   refine l_end (n_A ?_)
   refine aw1 11 (by kernel_rfl) rfl ?_
   refine bI ?_
   refine l_end (n_A ?_)
   refine aw0 (by kernel_rfl) ?_
   refine n_A ?_
   exact ⟨g13, sM17, BM17, _, fr_eq (F := fun j => [.bool false, j 1, .int .i64 0, j 3, .int .i64 0, j 5, .int .i64 0, j 7, .int .i64 0, j 9, .int .i64 80, j 11, .int .i64 80, j 13, j 14, j 15, j 16, .pointer (some ⟨g7, 0, none⟩), j 18, .bool false, j 20, .bool false, j 22, .bool true, j 24, .pointer (some ⟨g13, 0, none⟩), .bool true, j 27, j 28, j 29, j 30, j 31, j 32, j 33, j 34, j 35, j 36, j 37, j 38, j 39, j 40, j 41, j 42, j 43, j 44, j 45, j 46, j 47, j 48, j 49, j 50, j 51, j 52, j 53, j 54, j 55, j 56, j 57, j 58, j 59, j 60, j 61, j 62, j 63, j 64, j 65, j 66, j 67, j 68, j 69, j 70, j 71, j 72, j 73, j 74, j 75, j 76, j 77, j 78, j 79, j 80, j 81, j 82, j 83, j 84, j 85, j 86, j 87, j 88, j 89, j 90, j 91, j 92, j 93, j 94, j 95, j 96, j 97, j 98, j 99, j 100, j 101, j 102, j 103, j 104, j 105, j 106, j 107, j 108, j 109, j 110, j 111, .bool false, j 113, j 114, j 115, j 116, j 117, j 118, j 119, j 120, j 121, j 122, j 123, j 124, j 125, j 126, j 127, j 128, j 129, j 130, j 131, j 132, j 133, j 134, j 135, j 136, j 137, j 138, j 139, j 140, j 141, j 142, j 143, j 144, j 145, j 146, j 147, j 148, j 149, j 150, j 151, j 152, j 153, j 154, j 155, j 156, j 157, j 158, j 159, j 160, j 161, j 162, j 163, j 164, j 165, j 166, j 167, j 168, j 169, j 170, j 171, j 172, j 173, j 174, j 175, j 176, j 177, j 178, j 179, j 180, j 181, j 182, j 183, j 184, j 185, j 186, j 187, j 188, j 189, j 190, j 191, j 192, j 193, j 194, j 195, j 196, j 197, j 198, j 199, j 200, j 201, j 202, j 203, j 204, j 205, j 206, j 207, j 208, j 209, j 210, j 211, j 212, j 213, j 214, j 215, j 216, j 217, j 218, j 219, j 220, j 221, j 222, j 223, j 224, j 225, j 226, j 227, j 228, j 229, j 230, j 231, j 232, j 233, j 234, j 235, j 236, j 237]) (by kernel_rfl), pickJ (show Cl _ (((_ :: _ :: (([_, _] ++ B11) ++ BM)) ++ BQ17) ++ BM17) _ from hW), nM17⟩
  ·skip
   refine l_alloc hW tyZ31 rfl rfl rfl ?_
   intro g14 W hW
   refine l_end (n_A ?_)
   refine aw1 3 (by kernel_rfl) rfl ?_
   refine l_callX hW (g_Ask mB0 sM aM17 2 cM17 (nodeL [2, 3]) 1 (by decide) (by decide)) en34 ⟨(nM.rep.at (show Cl _ ((([_, _, _, _] ++ B11) ++ BM) ++ BQ17) _ from hW) (((List.sublist_append_right _ BM).trans (List.sublist_append_left _ BQ17)))), (oM17.repB.at (show Cl _ ((([_, _, _, _] ++ B11) ++ BM) ++ BQ17) _ from hW) ((List.sublist_append_right _ BQ17)))⟩ rfl rfl rfl rfl ?_
   rintro _ BM17 W ⟨sM17, rfl, nM17⟩ hW
   rw [em_0.1, em_0.2]
   refine l_end (n_A ?_)
   refine aw1 4 (by kernel_rfl) rfl ?_
   refine l_val (r_move (v := .tuple _) rfl rfl) rfl rfl ?_
   refine l_end (n_A ?_)
   refine awt 5 (by kernel_rfl) (by kernel_rfl) (by kernel_rfl) rfl rfl (r_extract (v := .agg _) rfl rfl rfl) (by kernel_rfl) (fun _ _ _ h => h) ?_
   refine awt 6 (by kernel_rfl) (by kernel_rfl) (by kernel_rfl) rfl rfl (r_extract (v := .bool _) rfl rfl rfl) (by kernel_rfl) (fun _ _ _ h => h) ?_
   refine awt 7 (by kernel_rfl) (by kernel_rfl) (by kernel_rfl) rfl rfl (r_extract (v := .int _ _) rfl rfl rfl) (by kernel_rfl) (fun _ _ _ h => h) ?_
   refine aw1 9 (by kernel_rfl) rfl ?_
   refine sA hW 0 tyA31 ?_
   intro W hW
   refine l_end (n_A ?_)
   refine aw1 10 (by kernel_rfl) rfl ?_
   refine bB ?_
   refine l_end (n_A ?_)
   refine aw1 11 (by kernel_rfl) rfl ?_
   refine bI ?_
   refine l_end (n_A ?_)
   refine aw0 (by kernel_rfl) ?_
   refine n_A ?_
   exact ⟨g14, sM17, BM17, _, fr_eq (F := fun j => [.bool false, j 1, .int .i64 0, j 3, .int .i64 0, j 5, .int .i64 0, j 7, .int .i64 0, j 9, .int .i64 80, j 11, .int .i64 80, j 13, j 14, j 15, j 16, .pointer (some ⟨g7, 0, none⟩), j 18, .bool false, j 20, .bool false, j 22, .bool true, j 24, .pointer (some ⟨g14, 0, none⟩), .bool true, j 27, j 28, j 29, j 30, j 31, j 32, j 33, j 34, j 35, j 36, j 37, j 38, j 39, j 40, j 41, j 42, j 43, j 44, j 45, j 46, j 47, j 48, j 49, j 50, j 51, j 52, j 53, j 54, j 55, j 56, j 57, j 58, j 59, j 60, j 61, j 62, j 63, j 64, j 65, j 66, j 67, j 68, j 69, j 70, j 71, j 72, j 73, j 74, j 75, j 76, j 77, j 78, j 79, j 80, j 81, j 82, j 83, j 84, j 85, j 86, j 87, j 88, j 89, j 90, j 91, j 92, j 93, j 94, j 95, j 96, j 97, j 98, j 99, j 100, j 101, j 102, j 103, j 104, j 105, j 106, j 107, j 108, j 109, j 110, j 111, .bool false, j 113, j 114, j 115, j 116, j 117, j 118, j 119, j 120, j 121, j 122, j 123, j 124, j 125, j 126, j 127, j 128, j 129, j 130, j 131, j 132, j 133, j 134, j 135, j 136, j 137, j 138, j 139, j 140, j 141, j 142, j 143, j 144, j 145, j 146, j 147, j 148, j 149, j 150, j 151, j 152, j 153, j 154, j 155, j 156, j 157, j 158, j 159, j 160, j 161, j 162, j 163, j 164, j 165, j 166, j 167, j 168, j 169, j 170, j 171, j 172, j 173, j 174, j 175, j 176, j 177, j 178, j 179, j 180, j 181, j 182, j 183, j 184, j 185, j 186, j 187, j 188, j 189, j 190, j 191, j 192, j 193, j 194, j 195, j 196, j 197, j 198, j 199, j 200, j 201, j 202, j 203, j 204, j 205, j 206, j 207, j 208, j 209, j 210, j 211, j 212, j 213, j 214, j 215, j 216, j 217, j 218, j 219, j 220, j 221, j 222, j 223, j 224, j 225, j 226, j 227, j 228, j 229, j 230, j 231, j 232, j 233, j 234, j 235, j 236, j 237]) (by kernel_rfl), pickJ (show Cl _ (((_ :: _ :: (([_, _] ++ B11) ++ BM)) ++ BQ17) ++ BM17) _ from hW), nM17⟩
 rintro _ W ⟨gx17, sM17, BM17, j, rfl, hW, nM17⟩
 refine n_then (c_seq ?_)
 replace hW := (show Cl _ ((([_, _, _] ++ B11) ++ BM) ++ BM17) _ from hW).sub (L' := (([_, _] ++ B11) ++ BM17)) (List.Sublist.append_right (List.Sublist.trans (List.Sublist.append_right (.cons_cons _ (.cons _ (.cons_cons _ List.Sublist.slnil))) B11) (List.sublist_append_left _ BM)) BM17)
 refine c_cut (fun j => [.bool false, j 1, .int .i64 0, j 3, .int .i64 0, j 5, .int .i64 0, j 7, .int .i64 0, j 9, .int .i64 80, j 11, .int .i64 80, j 13, j 14, j 15, j 16, .pointer (some ⟨g7, 0, none⟩), j 18, .bool false, j 20, .bool false, j 22, .bool true, j 24, .pointer (some ⟨gx17, 0, none⟩), .bool true, j 27, j 28, j 29, j 30, j 31, j 32, j 33, j 34, j 35, j 36, j 37, j 38, j 39, j 40, j 41, j 42, j 43, j 44, j 45, j 46, j 47, j 48, j 49, j 50, j 51, j 52, j 53, j 54, j 55, j 56, j 57, j 58, j 59, j 60, j 61, j 62, j 63, j 64, j 65, j 66, j 67, j 68, j 69, j 70, j 71, j 72, j 73, j 74, j 75, j 76, j 77, j 78, j 79, j 80, j 81, j 82, j 83, j 84, j 85, j 86, j 87, j 88, j 89, j 90, j 91, j 92, j 93, j 94, j 95, j 96, j 97, j 98, j 99, j 100, j 101, j 102, j 103, j 104, j 105, j 106, j 107, j 108, j 109, j 110, j 111, .bool false, j 113, j 114, j 115, j 116, j 117, j 118, j 119, j 120, j 121, j 122, j 123, j 124, j 125, j 126, j 127, j 128, j 129, j 130, j 131, j 132, j 133, j 134, j 135, j 136, j 137, j 138, j 139, j 140, j 141, j 142, j 143, j 144, j 145, j 146, j 147, j 148, j 149, j 150, j 151, j 152, j 153, j 154, j 155, j 156, j 157, j 158, j 159, j 160, j 161, j 162, j 163, j 164, j 165, j 166, j 167, j 168, j 169, j 170, j 171, j 172, j 173, j 174, j 175, j 176, j 177, j 178, j 179, j 180, j 181, j 182, j 183, j 184, j 185, j 186, j 187, j 188, j 189, j 190, j 191, j 192, j 193, j 194, j 195, j 196, j 197, j 198, j 199, j 200, j 201, j 202, j 203, j 204, j 205, j 206, j 207, j 208, j 209, j 210, j 211, j 212, j 213, j 214, j 215, j 216, j 217, j 218, j 219, j 220, j 221, j 222, j 223, j 224, j 225, j 226, j 227, j 228, j 229, j 230, j 231, j 232, j 233, j 234, j 235, j 236, j 237]) (by kernel_rfl) ?_
 intro j
 refine c_join (fun a W => ∃ (GX : Nat) (sM18 : Sl) (BM18 : List Blk) (j : Nat → Value), a = fr [.bool false, j 1, .int .i64 0, j 3, .int .i64 0, j 5, .int .i64 0, j 7, .int .i64 0, j 9, .int .i64 0, j 11, .int .i64 80, j 13, j 14, j 15, j 16, .pointer (some ⟨g7, 0, none⟩), j 18, .bool false, j 20, .bool false, j 22, .bool true, j 24, j 25, .bool true, .pointer (some ⟨GX, 0, none⟩), .bool false, j 29, j 30, j 31, j 32, j 33, j 34, j 35, j 36, j 37, j 38, j 39, j 40, j 41, j 42, j 43, j 44, j 45, j 46, j 47, j 48, j 49, j 50, j 51, j 52, j 53, j 54, j 55, j 56, j 57, j 58, j 59, j 60, j 61, j 62, j 63, j 64, j 65, j 66, j 67, j 68, j 69, j 70, j 71, j 72, j 73, j 74, j 75, j 76, j 77, j 78, j 79, j 80, j 81, j 82, j 83, j 84, j 85, j 86, j 87, j 88, j 89, j 90, j 91, j 92, j 93, j 94, j 95, j 96, j 97, j 98, j 99, j 100, j 101, j 102, j 103, j 104, j 105, j 106, j 107, j 108, j 109, j 110, j 111, .bool false, j 113, j 114, j 115, j 116, j 117, j 118, j 119, j 120, j 121, j 122, j 123, j 124, j 125, j 126, j 127, j 128, j 129, j 130, j 131, j 132, j 133, j 134, j 135, j 136, j 137, j 138, j 139, j 140, j 141, j 142, j 143, j 144, j 145, j 146, j 147, j 148, j 149, j 150, j 151, j 152, j 153, j 154, j 155, j 156, j 157, j 158, j 159, j 160, j 161, j 162, j 163, j 164, j 165, j 166, j 167, j 168, j 169, j 170, j 171, j 172, j 173, j 174, j 175, j 176, j 177, j 178, j 179, j 180, j 181, j 182, j 183, j 184, j 185, j 186, j 187, j 188, j 189, j 190, j 191, j 192, j 193, j 194, j 195, j 196, j 197, j 198, j 199, j 200, j 201, j 202, j 203, j 204, j 205, j 206, j 207, j 208, j 209, j 210, j 211, j 212, j 213, j 214, j 215, j 216, j 217, j 218, j 219, j 220, j 221, j 222, j 223, j 224, j 225, j 226, j 227, j 228, j 229, j 230, j 231, j 232, j 233, j 234, j 235, j 236, j 237] [] [] ∧ Cl (base w) ((⟨GX, (boC mB2 sM18), 31⟩ :: (([⟨gx17, (boC mB1 sM17), 31⟩, ⟨g7, boC (thB 5) s11, 31⟩] ++ B11) ++ BM17)) ++ BM18) W ∧ NewI sM18 mB2.l BM18) ?_ ?_
 ·skip
  refine c_regVB hW [] [.q, .mk 0, .mkd 1 0, .tail, .tail, .tail, .tail, .tail, .tail, .tail, .tail, .tail] [⟨150, bslX 3 2⟩, ⟨151, fun _ v Bs => ∃ (a : Option Addr) (c : Nat), v = .slice a 2 c ∧ OwnSl 64 2 a 2 c (sl2 (nodeL [2, 3])) Bs⟩] [[.int .i64 2, .int .i64 3], []] [1, 2] [0, 0, 2, 7, 15, 31, 31, 31, 0, 319, 895, 2047] [0, 1, 2] [3, 4, 5, 6, 7, 9, 10, 11] 8 27 #[true, true, true, false, false, false, false, false, false, false, false, false] (by kernel_rfl) (by kernel_rfl) rfl (by kernel_rfl) rfl (al_agg tyZ31 rfl) ?_
  refine y_loadA 0 tyA31 rfl rfl rfl rfl rfl (by first | rfl | exact kc_len _ | exact kcf_len _ | exact boC_len _ _ | (simp; done)) (by decide) ?_
  refine y_buildSliceF 0 (bsl27_2_0_1 _ _) rfl rfl rfl rfl ?_
  refine y_callXs 1 0 en35 rfl rfl rfl rfl ?_ rfl ?_
  ·rintro _ _ L2 hS ⟨g2, rfl, rfl⟩
   exact ⟨_, _, g_parts (some ⟨g2, 0, none⟩) 2 2 [2, 3] (by decide), fun w hC => rd_blk (e := 3) (g := g2) (l := [2, 3]) L2.length hC (by rw [List.getElem?_append_right (Nat.le_refl _), Nat.sub_self]; rfl) rfl (by decide), rfl⟩
  refine y_tail ?_
  refine y_made ?_
  rintro _ _ ⟨gm18, rfl, rfl⟩
  refine y_made ?_
  rintro _ BQ18 ⟨aM18, cM18, rfl, oM18⟩
  refine ⟨fun g15 W hW => ?_, fun W hW => ?_⟩
  ·rw [put_st]
   replace hW := pickQ hW
   refine aw1 3 (by kernel_rfl) rfl ?_
   refine l_callX hW (g_Ask mB1 sM17 aM18 2 cM18 (nodeL [2, 3]) 1 em_l.1 (by decide)) en34 ⟨(nM17.rep.at (show Cl _ ((([_, _, _, _] ++ B11) ++ BM17) ++ BQ18) _ from hW) (((List.sublist_append_right _ BM17).trans (List.sublist_append_left _ BQ18)))), (oM18.repB.at (show Cl _ ((([_, _, _, _] ++ B11) ++ BM17) ++ BQ18) _ from hW) ((List.sublist_append_right _ BQ18)))⟩ rfl rfl rfl rfl ?_
   rintro _ BM18 W ⟨sM18, rfl, nM18⟩ hW
   rw [em_1.1, em_1.2]
   refine l_end (n_A ?_)
   refine aw1 4 (by kernel_rfl) rfl ?_
   refine l_val (r_move (v := .tuple _) rfl rfl) rfl rfl ?_
   refine l_end (n_A ?_)
   refine awt 5 (by kernel_rfl) (by kernel_rfl) (by kernel_rfl) rfl rfl (r_extract (v := .agg _) rfl rfl rfl) (by kernel_rfl) (fun _ _ _ h => h) ?_
   refine awt 6 (by kernel_rfl) (by kernel_rfl) (by kernel_rfl) rfl rfl (r_extract (v := .bool _) rfl rfl rfl) (by kernel_rfl) (fun _ _ _ h => h) ?_
   refine awt 7 (by kernel_rfl) (by kernel_rfl) (by kernel_rfl) rfl rfl (r_extract (v := .int _ _) rfl rfl rfl) (by kernel_rfl) (fun _ _ _ h => h) ?_
   refine aw1 9 (by kernel_rfl) rfl ?_
   refine sA hW 0 tyA31 ?_
   intro W hW
   refine l_end (n_A ?_)
   refine aw1 10 (by kernel_rfl) rfl ?_
   refine bB ?_
   refine l_end (n_A ?_)
   refine aw1 11 (by kernel_rfl) rfl ?_
   refine bI ?_
   refine l_end (n_A ?_)
   refine aw0 (by kernel_rfl) ?_
   refine n_A ?_
   exact ⟨g15, sM18, BM18, _, fr_eq (F := fun j => [.bool false, j 1, .int .i64 0, j 3, .int .i64 0, j 5, .int .i64 0, j 7, .int .i64 0, j 9, .int .i64 0, j 11, .int .i64 80, j 13, j 14, j 15, j 16, .pointer (some ⟨g7, 0, none⟩), j 18, .bool false, j 20, .bool false, j 22, .bool true, j 24, j 25, .bool true, .pointer (some ⟨g15, 0, none⟩), .bool false, j 29, j 30, j 31, j 32, j 33, j 34, j 35, j 36, j 37, j 38, j 39, j 40, j 41, j 42, j 43, j 44, j 45, j 46, j 47, j 48, j 49, j 50, j 51, j 52, j 53, j 54, j 55, j 56, j 57, j 58, j 59, j 60, j 61, j 62, j 63, j 64, j 65, j 66, j 67, j 68, j 69, j 70, j 71, j 72, j 73, j 74, j 75, j 76, j 77, j 78, j 79, j 80, j 81, j 82, j 83, j 84, j 85, j 86, j 87, j 88, j 89, j 90, j 91, j 92, j 93, j 94, j 95, j 96, j 97, j 98, j 99, j 100, j 101, j 102, j 103, j 104, j 105, j 106, j 107, j 108, j 109, j 110, j 111, .bool false, j 113, j 114, j 115, j 116, j 117, j 118, j 119, j 120, j 121, j 122, j 123, j 124, j 125, j 126, j 127, j 128, j 129, j 130, j 131, j 132, j 133, j 134, j 135, j 136, j 137, j 138, j 139, j 140, j 141, j 142, j 143, j 144, j 145, j 146, j 147, j 148, j 149, j 150, j 151, j 152, j 153, j 154, j 155, j 156, j 157, j 158, j 159, j 160, j 161, j 162, j 163, j 164, j 165, j 166, j 167, j 168, j 169, j 170, j 171, j 172, j 173, j 174, j 175, j 176, j 177, j 178, j 179, j 180, j 181, j 182, j 183, j 184, j 185, j 186, j 187, j 188, j 189, j 190, j 191, j 192, j 193, j 194, j 195, j 196, j 197, j 198, j 199, j 200, j 201, j 202, j 203, j 204, j 205, j 206, j 207, j 208, j 209, j 210, j 211, j 212, j 213, j 214, j 215, j 216, j 217, j 218, j 219, j 220, j 221, j 222, j 223, j 224, j 225, j 226, j 227, j 228, j 229, j 230, j 231, j 232, j 233, j 234, j 235, j 236, j 237]) (by kernel_rfl), pickJ (show Cl _ (((_ :: _ :: (([_, _] ++ B11) ++ BM17)) ++ BQ18) ++ BM18) _ from hW), nM18⟩
  replace hW := hW.perm List.perm_append_comm
  refine awn [3, 8] (by kernel_rfl) (by simp) ⟨⟨_, rfl, ?_⟩, ⟨_, rfl, ?_⟩, trivial⟩
  ·skip
   refine l_callX hW (g_Ask mB1 sM17 aM18 2 cM18 (nodeL [2, 3]) 1 em_l.1 (by decide)) en34 ⟨(nM17.rep.at (show Cl _ ((([_, _, _] ++ B11) ++ BM17) ++ BQ18) _ from hW) (((List.sublist_append_right _ BM17).trans (List.sublist_append_left _ BQ18)))), (oM18.repB.at (show Cl _ ((([_, _, _] ++ B11) ++ BM17) ++ BQ18) _ from hW) ((List.sublist_append_right _ BQ18)))⟩ rfl rfl rfl rfl ?_
   rintro _ BM18 W ⟨sM18, rfl, nM18⟩ hW
   rw [em_1.1, em_1.2]
   refine l_end (n_A ?_)
   refine awt 4 (by kernel_rfl) (by kernel_rfl) (by kernel_rfl) rfl rfl (r_move (v := .tuple _) rfl rfl) (by kernel_rfl) (fun _ _ _ h => h) ?_
   refine awt 5 (by kernel_rfl) (by kernel_rfl) (by kernel_rfl) rfl rfl (r_extract (v := .agg _) rfl rfl rfl) (by kernel_rfl) (fun _ _ _ h => h) ?_
   refine awt 6 (by kernel_rfl) (by kernel_rfl) (by kernel_rfl) rfl rfl (r_extract (v := .bool _) rfl rfl rfl) (by kernel_rfl) (fun _ _ _ h => h) ?_
   refine awt 7 (by kernel_rfl) (by kernel_rfl) (by kernel_rfl) rfl rfl (r_extract (v := .int _ _) rfl rfl rfl) (by kernel_rfl) (fun _ _ _ h => h) ?_
   refine aw1 8 (by kernel_rfl) rfl ?_
   refine l_alloc hW tyZ31 rfl rfl rfl ?_
   intro g16 W hW
   refine l_end (n_A ?_)
   refine aw1 9 (by kernel_rfl) rfl ?_
   refine sA hW 0 tyA31 ?_
   intro W hW
   refine l_end (n_A ?_)
   refine aw1 10 (by kernel_rfl) rfl ?_
   refine bB ?_
   refine l_end (n_A ?_)
   refine aw1 11 (by kernel_rfl) rfl ?_
   refine bI ?_
   refine l_end (n_A ?_)
   refine aw0 (by kernel_rfl) ?_
   refine n_A ?_
   exact ⟨g16, sM18, BM18, _, fr_eq (F := fun j => [.bool false, j 1, .int .i64 0, j 3, .int .i64 0, j 5, .int .i64 0, j 7, .int .i64 0, j 9, .int .i64 0, j 11, .int .i64 80, j 13, j 14, j 15, j 16, .pointer (some ⟨g7, 0, none⟩), j 18, .bool false, j 20, .bool false, j 22, .bool true, j 24, j 25, .bool true, .pointer (some ⟨g16, 0, none⟩), .bool false, j 29, j 30, j 31, j 32, j 33, j 34, j 35, j 36, j 37, j 38, j 39, j 40, j 41, j 42, j 43, j 44, j 45, j 46, j 47, j 48, j 49, j 50, j 51, j 52, j 53, j 54, j 55, j 56, j 57, j 58, j 59, j 60, j 61, j 62, j 63, j 64, j 65, j 66, j 67, j 68, j 69, j 70, j 71, j 72, j 73, j 74, j 75, j 76, j 77, j 78, j 79, j 80, j 81, j 82, j 83, j 84, j 85, j 86, j 87, j 88, j 89, j 90, j 91, j 92, j 93, j 94, j 95, j 96, j 97, j 98, j 99, j 100, j 101, j 102, j 103, j 104, j 105, j 106, j 107, j 108, j 109, j 110, j 111, .bool false, j 113, j 114, j 115, j 116, j 117, j 118, j 119, j 120, j 121, j 122, j 123, j 124, j 125, j 126, j 127, j 128, j 129, j 130, j 131, j 132, j 133, j 134, j 135, j 136, j 137, j 138, j 139, j 140, j 141, j 142, j 143, j 144, j 145, j 146, j 147, j 148, j 149, j 150, j 151, j 152, j 153, j 154, j 155, j 156, j 157, j 158, j 159, j 160, j 161, j 162, j 163, j 164, j 165, j 166, j 167, j 168, j 169, j 170, j 171, j 172, j 173, j 174, j 175, j 176, j 177, j 178, j 179, j 180, j 181, j 182, j 183, j 184, j 185, j 186, j 187, j 188, j 189, j 190, j 191, j 192, j 193, j 194, j 195, j 196, j 197, j 198, j 199, j 200, j 201, j 202, j 203, j 204, j 205, j 206, j 207, j 208, j 209, j 210, j 211, j 212, j 213, j 214, j 215, j 216, j 217, j 218, j 219, j 220, j 221, j 222, j 223, j 224, j 225, j 226, j 227, j 228, j 229, j 230, j 231, j 232, j 233, j 234, j 235, j 236, j 237]) (by kernel_rfl), pickJ (show Cl _ (((_ :: _ :: (([_, _] ++ B11) ++ BM17)) ++ BQ18) ++ BM18) _ from hW), nM18⟩
  ·skip
   refine l_alloc hW tyZ31 rfl rfl rfl ?_
   intro g17 W hW
   refine l_end (n_A ?_)
   refine aw1 3 (by kernel_rfl) rfl ?_
   refine l_callX hW (g_Ask mB1 sM17 aM18 2 cM18 (nodeL [2, 3]) 1 em_l.1 (by decide)) en34 ⟨(nM17.rep.at (show Cl _ ((([_, _, _, _] ++ B11) ++ BM17) ++ BQ18) _ from hW) (((List.sublist_append_right _ BM17).trans (List.sublist_append_left _ BQ18)))), (oM18.repB.at (show Cl _ ((([_, _, _, _] ++ B11) ++ BM17) ++ BQ18) _ from hW) ((List.sublist_append_right _ BQ18)))⟩ rfl rfl rfl rfl ?_
   rintro _ BM18 W ⟨sM18, rfl, nM18⟩ hW
   rw [em_1.1, em_1.2]
   refine l_end (n_A ?_)
   refine aw1 4 (by kernel_rfl) rfl ?_
   refine l_val (r_move (v := .tuple _) rfl rfl) rfl rfl ?_
   refine l_end (n_A ?_)
   refine awt 5 (by kernel_rfl) (by kernel_rfl) (by kernel_rfl) rfl rfl (r_extract (v := .agg _) rfl rfl rfl) (by kernel_rfl) (fun _ _ _ h => h) ?_
   refine awt 6 (by kernel_rfl) (by kernel_rfl) (by kernel_rfl) rfl rfl (r_extract (v := .bool _) rfl rfl rfl) (by kernel_rfl) (fun _ _ _ h => h) ?_
   refine awt 7 (by kernel_rfl) (by kernel_rfl) (by kernel_rfl) rfl rfl (r_extract (v := .int _ _) rfl rfl rfl) (by kernel_rfl) (fun _ _ _ h => h) ?_
   refine aw1 9 (by kernel_rfl) rfl ?_
   refine sA hW 0 tyA31 ?_
   intro W hW
   refine l_end (n_A ?_)
   refine aw1 10 (by kernel_rfl) rfl ?_
   refine bB ?_
   refine l_end (n_A ?_)
   refine aw1 11 (by kernel_rfl) rfl ?_
   refine bI ?_
   refine l_end (n_A ?_)
   refine aw0 (by kernel_rfl) ?_
   refine n_A ?_
   exact ⟨g17, sM18, BM18, _, fr_eq (F := fun j => [.bool false, j 1, .int .i64 0, j 3, .int .i64 0, j 5, .int .i64 0, j 7, .int .i64 0, j 9, .int .i64 0, j 11, .int .i64 80, j 13, j 14, j 15, j 16, .pointer (some ⟨g7, 0, none⟩), j 18, .bool false, j 20, .bool false, j 22, .bool true, j 24, j 25, .bool true, .pointer (some ⟨g17, 0, none⟩), .bool false, j 29, j 30, j 31, j 32, j 33, j 34, j 35, j 36, j 37, j 38, j 39, j 40, j 41, j 42, j 43, j 44, j 45, j 46, j 47, j 48, j 49, j 50, j 51, j 52, j 53, j 54, j 55, j 56, j 57, j 58, j 59, j 60, j 61, j 62, j 63, j 64, j 65, j 66, j 67, j 68, j 69, j 70, j 71, j 72, j 73, j 74, j 75, j 76, j 77, j 78, j 79, j 80, j 81, j 82, j 83, j 84, j 85, j 86, j 87, j 88, j 89, j 90, j 91, j 92, j 93, j 94, j 95, j 96, j 97, j 98, j 99, j 100, j 101, j 102, j 103, j 104, j 105, j 106, j 107, j 108, j 109, j 110, j 111, .bool false, j 113, j 114, j 115, j 116, j 117, j 118, j 119, j 120, j 121, j 122, j 123, j 124, j 125, j 126, j 127, j 128, j 129, j 130, j 131, j 132, j 133, j 134, j 135, j 136, j 137, j 138, j 139, j 140, j 141, j 142, j 143, j 144, j 145, j 146, j 147, j 148, j 149, j 150, j 151, j 152, j 153, j 154, j 155, j 156, j 157, j 158, j 159, j 160, j 161, j 162, j 163, j 164, j 165, j 166, j 167, j 168, j 169, j 170, j 171, j 172, j 173, j 174, j 175, j 176, j 177, j 178, j 179, j 180, j 181, j 182, j 183, j 184, j 185, j 186, j 187, j 188, j 189, j 190, j 191, j 192, j 193, j 194, j 195, j 196, j 197, j 198, j 199, j 200, j 201, j 202, j 203, j 204, j 205, j 206, j 207, j 208, j 209, j 210, j 211, j 212, j 213, j 214, j 215, j 216, j 217, j 218, j 219, j 220, j 221, j 222, j 223, j 224, j 225, j 226, j 227, j 228, j 229, j 230, j 231, j 232, j 233, j 234, j 235, j 236, j 237]) (by kernel_rfl), pickJ (show Cl _ (((_ :: _ :: (([_, _] ++ B11) ++ BM17)) ++ BQ18) ++ BM18) _ from hW), nM18⟩
 rintro _ W ⟨gx18, sM18, BM18, j, rfl, hW, nM18⟩
 refine n_then (c_seq ?_)
 replace hW := (show Cl _ ((([_, _, _] ++ B11) ++ BM17) ++ BM18) _ from hW).sub (L' := (([_, _] ++ B11) ++ BM18)) (List.Sublist.append_right (List.Sublist.trans (List.Sublist.append_right (.cons_cons _ (.cons _ (.cons_cons _ List.Sublist.slnil))) B11) (List.sublist_append_left _ BM17)) BM18)
 refine c_cut (fun j => [.bool false, j 1, .int .i64 0, j 3, .int .i64 0, j 5, .int .i64 0, j 7, .int .i64 0, j 9, .int .i64 0, j 11, .int .i64 80, j 13, j 14, j 15, j 16, .pointer (some ⟨g7, 0, none⟩), j 18, .bool false, j 20, .bool false, j 22, .bool true, j 24, j 25, .bool true, .pointer (some ⟨gx18, 0, none⟩), .bool false, j 29, j 30, j 31, j 32, j 33, j 34, j 35, j 36, j 37, j 38, j 39, j 40, j 41, j 42, j 43, j 44, j 45, j 46, j 47, j 48, j 49, j 50, j 51, j 52, j 53, j 54, j 55, j 56, j 57, j 58, j 59, j 60, j 61, j 62, j 63, j 64, j 65, j 66, j 67, j 68, j 69, j 70, j 71, j 72, j 73, j 74, j 75, j 76, j 77, j 78, j 79, j 80, j 81, j 82, j 83, j 84, j 85, j 86, j 87, j 88, j 89, j 90, j 91, j 92, j 93, j 94, j 95, j 96, j 97, j 98, j 99, j 100, j 101, j 102, j 103, j 104, j 105, j 106, j 107, j 108, j 109, j 110, j 111, .bool false, j 113, j 114, j 115, j 116, j 117, j 118, j 119, j 120, j 121, j 122, j 123, j 124, j 125, j 126, j 127, j 128, j 129, j 130, j 131, j 132, j 133, j 134, j 135, j 136, j 137, j 138, j 139, j 140, j 141, j 142, j 143, j 144, j 145, j 146, j 147, j 148, j 149, j 150, j 151, j 152, j 153, j 154, j 155, j 156, j 157, j 158, j 159, j 160, j 161, j 162, j 163, j 164, j 165, j 166, j 167, j 168, j 169, j 170, j 171, j 172, j 173, j 174, j 175, j 176, j 177, j 178, j 179, j 180, j 181, j 182, j 183, j 184, j 185, j 186, j 187, j 188, j 189, j 190, j 191, j 192, j 193, j 194, j 195, j 196, j 197, j 198, j 199, j 200, j 201, j 202, j 203, j 204, j 205, j 206, j 207, j 208, j 209, j 210, j 211, j 212, j 213, j 214, j 215, j 216, j 217, j 218, j 219, j 220, j 221, j 222, j 223, j 224, j 225, j 226, j 227, j 228, j 229, j 230, j 231, j 232, j 233, j 234, j 235, j 236, j 237]) (by kernel_rfl) ?_
 intro j
 refine c_join (fun a W => ∃ (GX : Nat) (sM19 : Sl) (BM19 : List Blk) (j : Nat → Value), a = fr [.bool false, j 1, .int .i64 0, j 3, .int .i64 0, j 5, .int .i64 0, j 7, .int .i64 0, j 9, .int .i64 0, j 11, .int .i64 0, j 13, j 14, j 15, j 16, .pointer (some ⟨g7, 0, none⟩), j 18, .bool false, j 20, .bool false, j 22, .bool true, j 24, j 25, .bool true, .pointer (some ⟨gx18, 0, none⟩), .bool false, .pointer (some ⟨GX, 0, none⟩), .bool false, j 31, j 32, j 33, j 34, j 35, j 36, j 37, j 38, j 39, j 40, j 41, j 42, j 43, j 44, j 45, j 46, j 47, j 48, j 49, j 50, j 51, j 52, j 53, j 54, j 55, j 56, j 57, j 58, j 59, j 60, j 61, j 62, j 63, j 64, j 65, j 66, j 67, j 68, j 69, j 70, j 71, j 72, j 73, j 74, j 75, j 76, j 77, j 78, j 79, j 80, j 81, j 82, j 83, j 84, j 85, j 86, j 87, j 88, j 89, j 90, j 91, j 92, j 93, j 94, j 95, j 96, j 97, j 98, j 99, j 100, j 101, j 102, j 103, j 104, j 105, j 106, j 107, j 108, j 109, j 110, j 111, .bool false, j 113, j 114, j 115, j 116, j 117, j 118, j 119, j 120, j 121, j 122, j 123, j 124, j 125, j 126, j 127, j 128, j 129, j 130, j 131, j 132, j 133, j 134, j 135, j 136, j 137, j 138, j 139, j 140, j 141, j 142, j 143, j 144, j 145, j 146, j 147, j 148, j 149, j 150, j 151, j 152, j 153, j 154, j 155, j 156, j 157, j 158, j 159, j 160, j 161, j 162, j 163, j 164, j 165, j 166, j 167, j 168, j 169, j 170, j 171, j 172, j 173, j 174, j 175, j 176, j 177, j 178, j 179, j 180, j 181, j 182, j 183, j 184, j 185, j 186, j 187, j 188, j 189, j 190, j 191, j 192, j 193, j 194, j 195, j 196, j 197, j 198, j 199, j 200, j 201, j 202, j 203, j 204, j 205, j 206, j 207, j 208, j 209, j 210, j 211, j 212, j 213, j 214, j 215, j 216, j 217, j 218, j 219, j 220, j 221, j 222, j 223, j 224, j 225, j 226, j 227, j 228, j 229, j 230, j 231, j 232, j 233, j 234, j 235, j 236, j 237] [] [] ∧ Cl (base w) ((⟨GX, (boC (askX mB2 (nodeL [2, 3]) 0) sM19), 31⟩ :: (([⟨gx18, (boC mB2 sM18), 31⟩, ⟨g7, boC (thB 5) s11, 31⟩] ++ B11) ++ BM18)) ++ BM19) W ∧ NewI sM19 (askX mB2 (nodeL [2, 3]) 0).l BM19) ?_ ?_
 ·skip
  refine c_regVB hW [] [.q, .mk 0, .mkd 1 0, .tail, .tail, .tail, .tail, .tail, .tail, .tail, .tail, .tail] [⟨158, bslX 3 2⟩, ⟨159, fun _ v Bs => ∃ (a : Option Addr) (c : Nat), v = .slice a 2 c ∧ OwnSl 64 2 a 2 c (sl2 (nodeL [2, 3])) Bs⟩] [[.int .i64 2, .int .i64 3], []] [1, 2] [0, 0, 2, 7, 15, 31, 31, 31, 0, 319, 895, 2047] [0, 1, 2] [3, 4, 5, 6, 7, 9, 10, 11] 8 29 #[true, true, true, false, false, false, false, false, false, false, false, false] (by kernel_rfl) (by kernel_rfl) rfl (by kernel_rfl) rfl (al_agg tyZ31 rfl) ?_
  refine y_loadA 0 tyA31 rfl rfl rfl rfl rfl (by first | rfl | exact kc_len _ | exact kcf_len _ | exact boC_len _ _ | (simp; done)) (by decide) ?_
  refine y_buildSliceF 0 (bsl27_2_0_1 _ _) rfl rfl rfl rfl ?_
  refine y_callXs 1 0 en35 rfl rfl rfl rfl ?_ rfl ?_
  ·rintro _ _ L2 hS ⟨g2, rfl, rfl⟩
   exact ⟨_, _, g_parts (some ⟨g2, 0, none⟩) 2 2 [2, 3] (by decide), fun w hC => rd_blk (e := 3) (g := g2) (l := [2, 3]) L2.length hC (by rw [List.getElem?_append_right (Nat.le_refl _), Nat.sub_self]; rfl) rfl (by decide), rfl⟩
  refine y_tail ?_
  refine y_made ?_
  rintro _ _ ⟨gm19, rfl, rfl⟩
  refine y_made ?_
  rintro _ BQ19 ⟨aM19, cM19, rfl, oM19⟩
  refine ⟨fun g18 W hW => ?_, fun W hW => ?_⟩
  ·rw [put_st]
   replace hW := pickQ hW
   refine aw1 3 (by kernel_rfl) rfl ?_
   refine l_callX hW (g_Ask mB2 sM18 aM19 2 cM19 (nodeL [2, 3]) 0 em_l.2 (by decide)) en34 ⟨(nM18.rep.at (show Cl _ ((([_, _, _, _] ++ B11) ++ BM18) ++ BQ19) _ from hW) (((List.sublist_append_right _ BM18).trans (List.sublist_append_left _ BQ19)))), (oM19.repB.at (show Cl _ ((([_, _, _, _] ++ B11) ++ BM18) ++ BQ19) _ from hW) ((List.sublist_append_right _ BQ19)))⟩ rfl rfl rfl rfl ?_
   rintro _ BM19 W ⟨sM19, rfl, nM19⟩ hW
   rw [em_2.1, em_2.2]
   refine l_end (n_A ?_)
   refine aw1 4 (by kernel_rfl) rfl ?_
   refine l_val (r_move (v := .tuple _) rfl rfl) rfl rfl ?_
   refine l_end (n_A ?_)
   refine awt 5 (by kernel_rfl) (by kernel_rfl) (by kernel_rfl) rfl rfl (r_extract (v := .agg _) rfl rfl rfl) (by kernel_rfl) (fun _ _ _ h => h) ?_
   refine awt 6 (by kernel_rfl) (by kernel_rfl) (by kernel_rfl) rfl rfl (r_extract (v := .bool _) rfl rfl rfl) (by kernel_rfl) (fun _ _ _ h => h) ?_
   refine awt 7 (by kernel_rfl) (by kernel_rfl) (by kernel_rfl) rfl rfl (r_extract (v := .int _ _) rfl rfl rfl) (by kernel_rfl) (fun _ _ _ h => h) ?_
   refine aw1 9 (by kernel_rfl) rfl ?_
   refine sA hW 0 tyA31 ?_
   intro W hW
   refine l_end (n_A ?_)
   refine aw1 10 (by kernel_rfl) rfl ?_
   refine bB ?_
   refine l_end (n_A ?_)
   refine aw1 11 (by kernel_rfl) rfl ?_
   refine bI ?_
   refine l_end (n_A ?_)
   refine aw0 (by kernel_rfl) ?_
   refine n_A ?_
   exact ⟨g18, sM19, BM19, _, fr_eq (F := fun j => [.bool false, j 1, .int .i64 0, j 3, .int .i64 0, j 5, .int .i64 0, j 7, .int .i64 0, j 9, .int .i64 0, j 11, .int .i64 0, j 13, j 14, j 15, j 16, .pointer (some ⟨g7, 0, none⟩), j 18, .bool false, j 20, .bool false, j 22, .bool true, j 24, j 25, .bool true, .pointer (some ⟨gx18, 0, none⟩), .bool false, .pointer (some ⟨g18, 0, none⟩), .bool false, j 31, j 32, j 33, j 34, j 35, j 36, j 37, j 38, j 39, j 40, j 41, j 42, j 43, j 44, j 45, j 46, j 47, j 48, j 49, j 50, j 51, j 52, j 53, j 54, j 55, j 56, j 57, j 58, j 59, j 60, j 61, j 62, j 63, j 64, j 65, j 66, j 67, j 68, j 69, j 70, j 71, j 72, j 73, j 74, j 75, j 76, j 77, j 78, j 79, j 80, j 81, j 82, j 83, j 84, j 85, j 86, j 87, j 88, j 89, j 90, j 91, j 92, j 93, j 94, j 95, j 96, j 97, j 98, j 99, j 100, j 101, j 102, j 103, j 104, j 105, j 106, j 107, j 108, j 109, j 110, j 111, .bool false, j 113, j 114, j 115, j 116, j 117, j 118, j 119, j 120, j 121, j 122, j 123, j 124, j 125, j 126, j 127, j 128, j 129, j 130, j 131, j 132, j 133, j 134, j 135, j 136, j 137, j 138, j 139, j 140, j 141, j 142, j 143, j 144, j 145, j 146, j 147, j 148, j 149, j 150, j 151, j 152, j 153, j 154, j 155, j 156, j 157, j 158, j 159, j 160, j 161, j 162, j 163, j 164, j 165, j 166, j 167, j 168, j 169, j 170, j 171, j 172, j 173, j 174, j 175, j 176, j 177, j 178, j 179, j 180, j 181, j 182, j 183, j 184, j 185, j 186, j 187, j 188, j 189, j 190, j 191, j 192, j 193, j 194, j 195, j 196, j 197, j 198, j 199, j 200, j 201, j 202, j 203, j 204, j 205, j 206, j 207, j 208, j 209, j 210, j 211, j 212, j 213, j 214, j 215, j 216, j 217, j 218, j 219, j 220, j 221, j 222, j 223, j 224, j 225, j 226, j 227, j 228, j 229, j 230, j 231, j 232, j 233, j 234, j 235, j 236, j 237]) (by kernel_rfl), pickJ (show Cl _ (((_ :: _ :: (([_, _] ++ B11) ++ BM18)) ++ BQ19) ++ BM19) _ from hW), nM19⟩
  replace hW := hW.perm List.perm_append_comm
  refine awn [3, 8] (by kernel_rfl) (by simp) ⟨⟨_, rfl, ?_⟩, ⟨_, rfl, ?_⟩, trivial⟩
  ·skip
   refine l_callX hW (g_Ask mB2 sM18 aM19 2 cM19 (nodeL [2, 3]) 0 em_l.2 (by decide)) en34 ⟨(nM18.rep.at (show Cl _ ((([_, _, _] ++ B11) ++ BM18) ++ BQ19) _ from hW) (((List.sublist_append_right _ BM18).trans (List.sublist_append_left _ BQ19)))), (oM19.repB.at (show Cl _ ((([_, _, _] ++ B11) ++ BM18) ++ BQ19) _ from hW) ((List.sublist_append_right _ BQ19)))⟩ rfl rfl rfl rfl ?_
   rintro _ BM19 W ⟨sM19, rfl, nM19⟩ hW
   rw [em_2.1, em_2.2]
   refine l_end (n_A ?_)
   refine awt 4 (by kernel_rfl) (by kernel_rfl) (by kernel_rfl) rfl rfl (r_move (v := .tuple _) rfl rfl) (by kernel_rfl) (fun _ _ _ h => h) ?_
   refine awt 5 (by kernel_rfl) (by kernel_rfl) (by kernel_rfl) rfl rfl (r_extract (v := .agg _) rfl rfl rfl) (by kernel_rfl) (fun _ _ _ h => h) ?_
   refine awt 6 (by kernel_rfl) (by kernel_rfl) (by kernel_rfl) rfl rfl (r_extract (v := .bool _) rfl rfl rfl) (by kernel_rfl) (fun _ _ _ h => h) ?_
   refine awt 7 (by kernel_rfl) (by kernel_rfl) (by kernel_rfl) rfl rfl (r_extract (v := .int _ _) rfl rfl rfl) (by kernel_rfl) (fun _ _ _ h => h) ?_
   refine aw1 8 (by kernel_rfl) rfl ?_
   refine l_alloc hW tyZ31 rfl rfl rfl ?_
   intro g19 W hW
   refine l_end (n_A ?_)
   refine aw1 9 (by kernel_rfl) rfl ?_
   refine sA hW 0 tyA31 ?_
   intro W hW
   refine l_end (n_A ?_)
   refine aw1 10 (by kernel_rfl) rfl ?_
   refine bB ?_
   refine l_end (n_A ?_)
   refine aw1 11 (by kernel_rfl) rfl ?_
   refine bI ?_
   refine l_end (n_A ?_)
   refine aw0 (by kernel_rfl) ?_
   refine n_A ?_
   exact ⟨g19, sM19, BM19, _, fr_eq (F := fun j => [.bool false, j 1, .int .i64 0, j 3, .int .i64 0, j 5, .int .i64 0, j 7, .int .i64 0, j 9, .int .i64 0, j 11, .int .i64 0, j 13, j 14, j 15, j 16, .pointer (some ⟨g7, 0, none⟩), j 18, .bool false, j 20, .bool false, j 22, .bool true, j 24, j 25, .bool true, .pointer (some ⟨gx18, 0, none⟩), .bool false, .pointer (some ⟨g19, 0, none⟩), .bool false, j 31, j 32, j 33, j 34, j 35, j 36, j 37, j 38, j 39, j 40, j 41, j 42, j 43, j 44, j 45, j 46, j 47, j 48, j 49, j 50, j 51, j 52, j 53, j 54, j 55, j 56, j 57, j 58, j 59, j 60, j 61, j 62, j 63, j 64, j 65, j 66, j 67, j 68, j 69, j 70, j 71, j 72, j 73, j 74, j 75, j 76, j 77, j 78, j 79, j 80, j 81, j 82, j 83, j 84, j 85, j 86, j 87, j 88, j 89, j 90, j 91, j 92, j 93, j 94, j 95, j 96, j 97, j 98, j 99, j 100, j 101, j 102, j 103, j 104, j 105, j 106, j 107, j 108, j 109, j 110, j 111, .bool false, j 113, j 114, j 115, j 116, j 117, j 118, j 119, j 120, j 121, j 122, j 123, j 124, j 125, j 126, j 127, j 128, j 129, j 130, j 131, j 132, j 133, j 134, j 135, j 136, j 137, j 138, j 139, j 140, j 141, j 142, j 143, j 144, j 145, j 146, j 147, j 148, j 149, j 150, j 151, j 152, j 153, j 154, j 155, j 156, j 157, j 158, j 159, j 160, j 161, j 162, j 163, j 164, j 165, j 166, j 167, j 168, j 169, j 170, j 171, j 172, j 173, j 174, j 175, j 176, j 177, j 178, j 179, j 180, j 181, j 182, j 183, j 184, j 185, j 186, j 187, j 188, j 189, j 190, j 191, j 192, j 193, j 194, j 195, j 196, j 197, j 198, j 199, j 200, j 201, j 202, j 203, j 204, j 205, j 206, j 207, j 208, j 209, j 210, j 211, j 212, j 213, j 214, j 215, j 216, j 217, j 218, j 219, j 220, j 221, j 222, j 223, j 224, j 225, j 226, j 227, j 228, j 229, j 230, j 231, j 232, j 233, j 234, j 235, j 236, j 237]) (by kernel_rfl), pickJ (show Cl _ (((_ :: _ :: (([_, _] ++ B11) ++ BM18)) ++ BQ19) ++ BM19) _ from hW), nM19⟩
  ·skip
   refine l_alloc hW tyZ31 rfl rfl rfl ?_
   intro g20 W hW
   refine l_end (n_A ?_)
   refine aw1 3 (by kernel_rfl) rfl ?_
   refine l_callX hW (g_Ask mB2 sM18 aM19 2 cM19 (nodeL [2, 3]) 0 em_l.2 (by decide)) en34 ⟨(nM18.rep.at (show Cl _ ((([_, _, _, _] ++ B11) ++ BM18) ++ BQ19) _ from hW) (((List.sublist_append_right _ BM18).trans (List.sublist_append_left _ BQ19)))), (oM19.repB.at (show Cl _ ((([_, _, _, _] ++ B11) ++ BM18) ++ BQ19) _ from hW) ((List.sublist_append_right _ BQ19)))⟩ rfl rfl rfl rfl ?_
   rintro _ BM19 W ⟨sM19, rfl, nM19⟩ hW
   rw [em_2.1, em_2.2]
   refine l_end (n_A ?_)
   refine aw1 4 (by kernel_rfl) rfl ?_
   refine l_val (r_move (v := .tuple _) rfl rfl) rfl rfl ?_
   refine l_end (n_A ?_)
   refine awt 5 (by kernel_rfl) (by kernel_rfl) (by kernel_rfl) rfl rfl (r_extract (v := .agg _) rfl rfl rfl) (by kernel_rfl) (fun _ _ _ h => h) ?_
   refine awt 6 (by kernel_rfl) (by kernel_rfl) (by kernel_rfl) rfl rfl (r_extract (v := .bool _) rfl rfl rfl) (by kernel_rfl) (fun _ _ _ h => h) ?_
   refine awt 7 (by kernel_rfl) (by kernel_rfl) (by kernel_rfl) rfl rfl (r_extract (v := .int _ _) rfl rfl rfl) (by kernel_rfl) (fun _ _ _ h => h) ?_
   refine aw1 9 (by kernel_rfl) rfl ?_
   refine sA hW 0 tyA31 ?_
   intro W hW
   refine l_end (n_A ?_)
   refine aw1 10 (by kernel_rfl) rfl ?_
   refine bB ?_
   refine l_end (n_A ?_)
   refine aw1 11 (by kernel_rfl) rfl ?_
   refine bI ?_
   refine l_end (n_A ?_)
   refine aw0 (by kernel_rfl) ?_
   refine n_A ?_
   exact ⟨g20, sM19, BM19, _, fr_eq (F := fun j => [.bool false, j 1, .int .i64 0, j 3, .int .i64 0, j 5, .int .i64 0, j 7, .int .i64 0, j 9, .int .i64 0, j 11, .int .i64 0, j 13, j 14, j 15, j 16, .pointer (some ⟨g7, 0, none⟩), j 18, .bool false, j 20, .bool false, j 22, .bool true, j 24, j 25, .bool true, .pointer (some ⟨gx18, 0, none⟩), .bool false, .pointer (some ⟨g20, 0, none⟩), .bool false, j 31, j 32, j 33, j 34, j 35, j 36, j 37, j 38, j 39, j 40, j 41, j 42, j 43, j 44, j 45, j 46, j 47, j 48, j 49, j 50, j 51, j 52, j 53, j 54, j 55, j 56, j 57, j 58, j 59, j 60, j 61, j 62, j 63, j 64, j 65, j 66, j 67, j 68, j 69, j 70, j 71, j 72, j 73, j 74, j 75, j 76, j 77, j 78, j 79, j 80, j 81, j 82, j 83, j 84, j 85, j 86, j 87, j 88, j 89, j 90, j 91, j 92, j 93, j 94, j 95, j 96, j 97, j 98, j 99, j 100, j 101, j 102, j 103, j 104, j 105, j 106, j 107, j 108, j 109, j 110, j 111, .bool false, j 113, j 114, j 115, j 116, j 117, j 118, j 119, j 120, j 121, j 122, j 123, j 124, j 125, j 126, j 127, j 128, j 129, j 130, j 131, j 132, j 133, j 134, j 135, j 136, j 137, j 138, j 139, j 140, j 141, j 142, j 143, j 144, j 145, j 146, j 147, j 148, j 149, j 150, j 151, j 152, j 153, j 154, j 155, j 156, j 157, j 158, j 159, j 160, j 161, j 162, j 163, j 164, j 165, j 166, j 167, j 168, j 169, j 170, j 171, j 172, j 173, j 174, j 175, j 176, j 177, j 178, j 179, j 180, j 181, j 182, j 183, j 184, j 185, j 186, j 187, j 188, j 189, j 190, j 191, j 192, j 193, j 194, j 195, j 196, j 197, j 198, j 199, j 200, j 201, j 202, j 203, j 204, j 205, j 206, j 207, j 208, j 209, j 210, j 211, j 212, j 213, j 214, j 215, j 216, j 217, j 218, j 219, j 220, j 221, j 222, j 223, j 224, j 225, j 226, j 227, j 228, j 229, j 230, j 231, j 232, j 233, j 234, j 235, j 236, j 237]) (by kernel_rfl), pickJ (show Cl _ (((_ :: _ :: (([_, _] ++ B11) ++ BM18)) ++ BQ19) ++ BM19) _ from hW), nM19⟩
 rintro _ W ⟨gx19, sM19, BM19, j, rfl, hW, nM19⟩
 refine n_then (c_seq (c_seq ?_))
 replace hW := (show Cl _ ((([_, _, _] ++ B11) ++ BM18) ++ BM19) _ from hW).sub (L' := (([_, _] ++ B11) ++ BM18)) (List.Sublist.trans (List.Sublist.append_right (List.Sublist.append_right (.cons _ (.cons_cons _ (.cons_cons _ List.Sublist.slnil))) B11) BM18) (List.sublist_append_left _ BM19))
 refine c_cut (fun j => [.bool false, j 1, .int .i64 0, j 3, .int .i64 0, j 5, .int .i64 0, j 7, .int .i64 0, j 9, .int .i64 0, j 11, .int .i64 0, j 13, j 14, j 15, j 16, .pointer (some ⟨g7, 0, none⟩), j 18, .bool false, j 20, .bool false, j 22, .bool true, j 24, j 25, .bool true, .pointer (some ⟨gx18, 0, none⟩), .bool false, j 29, .bool false, j 31, j 32, j 33, j 34, j 35, j 36, j 37, j 38, j 39, j 40, j 41, j 42, j 43, j 44, j 45, j 46, j 47, j 48, j 49, j 50, j 51, j 52, j 53, j 54, j 55, j 56, j 57, j 58, j 59, j 60, j 61, j 62, j 63, j 64, j 65, j 66, j 67, j 68, j 69, j 70, j 71, j 72, j 73, j 74, j 75, j 76, j 77, j 78, j 79, j 80, j 81, j 82, j 83, j 84, j 85, j 86, j 87, j 88, j 89, j 90, j 91, j 92, j 93, j 94, j 95, j 96, j 97, j 98, j 99, j 100, j 101, j 102, j 103, j 104, j 105, j 106, j 107, j 108, j 109, j 110, j 111, .bool false, j 113, j 114, j 115, j 116, j 117, j 118, j 119, j 120, j 121, j 122, j 123, j 124, j 125, j 126, j 127, j 128, j 129, j 130, j 131, j 132, j 133, j 134, j 135, j 136, j 137, j 138, j 139, j 140, j 141, j 142, j 143, j 144, j 145, j 146, j 147, j 148, j 149, j 150, j 151, j 152, j 153, j 154, j 155, j 156, j 157, j 158, j 159, j 160, j 161, j 162, j 163, j 164, j 165, j 166, j 167, j 168, j 169, j 170, j 171, j 172, j 173, j 174, j 175, j 176, j 177, j 178, j 179, j 180, j 181, j 182, j 183, j 184, j 185, j 186, j 187, j 188, j 189, j 190, j 191, j 192, j 193, j 194, j 195, j 196, j 197, j 198, j 199, j 200, j 201, j 202, j 203, j 204, j 205, j 206, j 207, j 208, j 209, j 210, j 211, j 212, j 213, j 214, j 215, j 216, j 217, j 218, j 219, j 220, j 221, j 222, j 223, j 224, j 225, j 226, j 227, j 228, j 229, j 230, j 231, j 232, j 233, j 234, j 235, j 236, j 237]) (by kernel_rfl) ?_
 intro j
 refine c_reg ?_
 refine dA hW 1 tyA31 ?_
 have kc := g_CheckBox (thB 5) s11 (by decide)
 rw [ec_5] at kc
 refine l_callR hW kc en36 (n11.rep.at (show Cl _ (([_, _] ++ B11) ++ BM18) _ from hW) (((List.sublist_append_right _ B11).trans (List.sublist_append_left _ BM18)))) rfl rfl rfl rfl ?_
 intro W hW
 refine l_val (r_neq (b := false) rfl rfl rfl (by decide)) rfl rfl ?_
 refine aB ?_
 refine gI ?_
 refine l_valG (r_neq (b := false) rfl rfl rfl (by decide)) (by kernel_rfl) rfl ?_
 refine kB ?_
 refine aB ?_
 refine l_valG (r_move (v := .bool _) rfl rfl) (by kernel_rfl) rfl ?_
 refine kB ?_
 refine aB ?_
 refine gI ?_
 refine l_valG (r_neq (b := false) rfl rfl rfl (by decide)) (by kernel_rfl) rfl ?_
 refine kB ?_
 refine aB ?_
 refine l_valG (r_move (v := .bool _) rfl rfl) (by kernel_rfl) rfl ?_
 refine kB ?_
 refine aB ?_
 refine gI ?_
 refine l_valG (r_neq (b := false) rfl rfl rfl (by decide)) (by kernel_rfl) rfl ?_
 refine kB ?_
 refine aB ?_
 refine l_valG (r_move (v := .bool _) rfl rfl) (by kernel_rfl) rfl ?_
 refine l_valG (r_not rfl rfl) (by kernel_rfl) rfl ?_
 refine kB ?_
 refine aB ?_
 refine gI ?_
 refine l_valG (r_neq (b := false) rfl rfl rfl (by decide)) (by kernel_rfl) rfl ?_
 refine kB ?_
 refine aB ?_
 refine l_valG (r_move (v := .bool _) rfl rfl) (by kernel_rfl) rfl ?_
 refine l_valG (r_not rfl rfl) (by kernel_rfl) rfl ?_
 refine kB ?_
 refine aB ?_
 refine gI ?_
 refine l_valG (r_neq (b := false) rfl rfl rfl (by decide)) (by kernel_rfl) rfl ?_
 refine kB ?_
 refine aB ?_
 refine l_valG (r_move (v := .bool _) rfl rfl) (by kernel_rfl) rfl ?_
 refine kB ?_
 refine aB ?_
 refine gI ?_
 refine l_valG (r_neq (b := false) rfl rfl rfl (by decide)) (by kernel_rfl) rfl ?_
 refine kB ?_
 refine aB ?_
 refine l_valG (r_move (v := .bool _) rfl rfl) (by kernel_rfl) rfl ?_
 refine kB ?_
 refine aB ?_
 refine l_valG (r_fieldAddr 27 Tryz.underlying31 rfl tyC3.size rfl rfl rfl) (by kernel_rfl) rfl ?_
 refine dG hW 0 tyC3 ?_
 refine l_valG (r_neq (b := false) rfl rfl rfl (decide_eq_false (by rw [em_x]; decide))) (by kernel_rfl) rfl ?_
 refine kB ?_
 refine l_end (n_then ?_)
 refine c_false rfl ?_
 refine c_skip (n_then (c_seq ?_))
 replace hW := (show Cl _ (([_, _] ++ B11) ++ BM18) _ from hW).sub (L' := []) (List.Sublist.trans (List.Sublist.trans (.cons _ (.cons _ List.Sublist.slnil)) (List.sublist_append_left _ B11)) (List.sublist_append_left _ BM18))
 refine c_cut (fun j => [.bool false, j 1, j 2, j 3, j 4, j 5, j 6, j 7, j 8, j 9, j 10, j 11, j 12, j 13, j 14, j 15, j 16, j 17, j 18, j 19, j 20, j 21, j 22, j 23, j 24, j 25, j 26, j 27, j 28, j 29, j 30, j 31, j 32, j 33, j 34, j 35, j 36, j 37, j 38, j 39, j 40, j 41, j 42, j 43, j 44, j 45, j 46, j 47, j 48, j 49, j 50, j 51, j 52, j 53, j 54, j 55, j 56, j 57, j 58, j 59, j 60, j 61, j 62, j 63, j 64, j 65, j 66, j 67, j 68, j 69, j 70, j 71, j 72, j 73, j 74, j 75, j 76, j 77, j 78, j 79, j 80, j 81, j 82, j 83, j 84, j 85, j 86, j 87, j 88, j 89, j 90, j 91, j 92, j 93, j 94, j 95, j 96, j 97, j 98, j 99, j 100, j 101, j 102, j 103, j 104, j 105, j 106, j 107, j 108, j 109, j 110, j 111, .bool false, j 113, j 114, j 115, j 116, j 117, j 118, j 119, j 120, j 121, j 122, j 123, j 124, j 125, j 126, j 127, j 128, j 129, j 130, j 131, j 132, j 133, j 134, j 135, j 136, j 137, j 138, j 139, j 140, j 141, j 142, j 143, j 144, j 145, j 146, j 147, j 148, j 149, j 150, j 151, j 152, j 153, j 154, j 155, j 156, j 157, j 158, j 159, j 160, j 161, j 162, j 163, j 164, j 165, j 166, j 167, j 168, j 169, j 170, j 171, j 172, j 173, j 174, j 175, j 176, j 177, j 178, j 179, j 180, j 181, j 182, j 183, j 184, j 185, j 186, j 187, j 188, j 189, j 190, j 191, j 192, j 193, j 194, j 195, j 196, j 197, j 198, j 199, j 200, j 201, j 202, j 203, j 204, j 205, j 206, j 207, j 208, j 209, j 210, j 211, j 212, j 213, j 214, .bool false, j 216, j 217, j 218, j 219, j 220, j 221, j 222, j 223, j 224, j 225, j 226, j 227, j 228, j 229, j 230, j 231, j 232, j 233, j 234, j 235, j 236, j 237]) (by kernel_rfl) ?_
 intro j
 refine c_reg ?_
 refine l_callX hW (g_three 1) en33 trivial rfl rfl rfl rfl ?_
 rintro _ BT1 W ⟨sT1, rfl, nT1⟩ hW
 refine l_val (r_fieldA Tryz.underlying31 rfl tyA26 rfl rfl rfl) rfl rfl ?_
 refine l_buildSliceF hW (bsl27_2_0_1 _ _) rfl rfl rfl rfl ?_
 intro gi W hW
 refine l_callX hW (g_parts (some ⟨gi, 0, none⟩) 2 2 [2, 4] (by decide)) en35 (rd_blk 0 hW rfl rfl (by decide)) rfl rfl rfl rfl ?_
 rintro _ BP1 W ⟨a1, c1, rfl, o1⟩ hW
 have kp := g_CheckParts (thB 1).s a1 2 c1 (nodeL [2, 4]) (by decide)
 rw [ep_1] at kp
 refine l_callR hW kp en37 (o1.repB.at (show Cl _ (([_] ++ BT1) ++ BP1) _ from hW) ((List.sublist_append_right _ BP1))) rfl rfl rfl rfl ?_
 intro W hW
 refine l_val (r_eql (b := true) rfl rfl rfl (by decide)) rfl rfl ?_
 refine aB ?_
 refine l_callXG hW (g_three 1) en33 trivial (by kernel_rfl) rfl rfl rfl ?_
 rintro _ BT2 W ⟨sT2, rfl, nT2⟩ hW
 refine l_valG (r_fieldA Tryz.underlying31 rfl tyA26 rfl rfl rfl) (by kernel_rfl) rfl ?_
 refine l_buildSliceFG hW (bsl27_1_0 _) (by kernel_rfl) rfl rfl rfl ?_
 intro gi W hW
 refine l_callXG hW (g_parts (some ⟨gi, 0, none⟩) 1 1 [16] (by decide)) en35 (rd_blk 0 hW rfl rfl (by decide)) (by kernel_rfl) rfl rfl rfl ?_
 rintro _ BP2 W ⟨a2, c2, rfl, o2⟩ hW
 have kp := g_CheckParts (thB 1).s a2 1 c2 (nodeL [16]) (by decide)
 rw [ep_2] at kp
 refine l_callRG hW kp en37 (o2.repB.at (show Cl _ (((([_, _] ++ BT1) ++ BP1) ++ BT2) ++ BP2) _ from hW) ((List.sublist_append_right _ BP2))) (by kernel_rfl) rfl rfl rfl ?_
 intro W hW
 refine l_valG (r_eql (b := true) rfl rfl rfl (by decide)) (by kernel_rfl) rfl ?_
 refine kB ?_
 refine aB ?_
 refine l_callXG hW (g_three 1) en33 trivial (by kernel_rfl) rfl rfl rfl ?_
 rintro _ BT3 W ⟨sT3, rfl, nT3⟩ hW
 refine l_valG (r_fieldA Tryz.underlying31 rfl tyA26 rfl rfl rfl) (by kernel_rfl) rfl ?_
 refine l_buildSliceFG hW (bsl27_2_0_1 _ _) (by kernel_rfl) rfl rfl rfl ?_
 intro gi W hW
 refine l_callXG hW (g_parts (some ⟨gi, 0, none⟩) 2 2 [2, 3] (by decide)) en35 (rd_blk 0 hW rfl rfl (by decide)) (by kernel_rfl) rfl rfl rfl ?_
 rintro _ BP3 W ⟨a3, c3, rfl, o3⟩ hW
 have kp := g_CheckParts (thB 1).s a3 2 c3 (nodeL [2, 3]) (by decide)
 rw [ep_3] at kp
 refine l_callRG hW kp en37 (o3.repB.at (show Cl _ (((((([_, _, _] ++ BT1) ++ BP1) ++ BT2) ++ BP2) ++ BT3) ++ BP3) _ from hW) ((List.sublist_append_right _ BP3))) (by kernel_rfl) rfl rfl rfl ?_
 intro W hW
 refine l_valG (r_eql (b := true) rfl rfl rfl (by decide)) (by kernel_rfl) rfl ?_
 refine kB ?_
 refine bB ?_
 refine l_end (n_then (c_ret ?_))
 refine ret_tmp (v := .bool true) rfl ?_ ⟨rfl, hW.below⟩
 rfl

end Go.Proofs.YtoegpalacppllaaGreat

/- The limits, the numbers of errors, and the examples of the chapter on tracing hold of the program; no input, no conditions. -/
namespace Go.Proofs.YtoegpalacppllaaGreat
open Go.RowKit Go.ChangeShapes Go.WideShapes Pl Tr Hn

theorem traceExamples_calls (H : Type) (enc : TypeId × Value → H) (W : World) (base : Nat) (args : Array Value) (ds : List (DataW H)) (ps : List MemPlace) (h : Opened enc Tryz.prog W Tryz.f5 base args ds ps) :
    Calls Tryz.prog 5 args W fun e w' => e = .returned (.bool true) ∧ Below W.heap.size W w' := by
  have r0 := h.args (ts := []) (by kernel_rfl)
  generalize hl : args.toList = l0 at r0
  obtain rfl := r0.nil
  rw [arr_of hl]
  exact g_TraceExamples W
set_option maxRecDepth 100000 in
theorem traceExamples_closed : joinedFacts Tryz.pinned.checked.prog 5 Tryz.f5 Rows.traceExamplesSpec Rows.traceExamplesRow = true := by kernel_rfl
set_option maxRecDepth 100000 in
theorem traceExamples_holds : Rows.TraceExamplesSaid :=
  OpenClaim.holds_of_wide 5 Tryz.f5 rfl rfl rfl rfl rfl rfl rfl ⟨rfl, rfl, rfl, rfl, rfl⟩ rfl rfl rfl rfl rfl (by kernel_rfl) Tryz.func5 traceExamples_closed
    (of_decide_eq_true (by kernel_rfl)) (by unfold Func.isWrapper; first | (rw [if_pos (by decide +kernel)]; kernel_rfl) | (rw [if_neg (by decide +kernel)]; exact ⟨rfl, rfl⟩))
    (fun os started H enc _ => law_lifted (C := Tryz.checked) (s := Rows.traceExamplesSpec) (conds := Rows.traceExamplesRow.domain) 4 (by kernel_rfl) (by kernel_rfl) Tryz.func5 (by kernel_rfl) (by kernel_rfl) rfl
      (fun H ds hd => match ds, hd with | [], _ => rfl) (by kernel_rfl) Tryz.underlying4 traceExamples_calls os started H enc
      (ChangeSpec.witness6 (enc := enc) (C := Tryz.checked) false ⟨#[], #[], []⟩ 8 (by kernel_rfl) (by kernel_rfl) (by kernel_rfl) (by kernel_rfl)))
#print axioms traceExamples_holds
end Go.Proofs.YtoegpalacppllaaGreat

