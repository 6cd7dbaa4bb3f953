/- The law FnExactKinds holds for every call: part 6 of 6 of the proof (the row). Conditions: none beyond what the given row says. -/
import Derived.Test.YtijmhelacmjggaaMFnExactKinds0
import Derived.Test.YtijmhelacmjggaaMFnExactKinds1
import Derived.Test.YtijmhelacmjggaaMFnExactKinds4
import Derived.ChangeSlices
import Derived.ChangeArms
import Derived.SizedLaws
import Derived.Test.YtijmhelacmjggaaRows
import Derived.WalkKit
import Derived.ProofKit
import Derived.OpenShut
import Derived.ShutString
import Derived.ChangeOld
import Derived.Below
set_option linter.unusedVariables false
set_option linter.unusedSimpArgs false
namespace Go.Proofs.Ytijmhelacmjggaa.P
open Go.RowKit Go.Proofs.YtijmhelacmjggaaW.PrintWords Go.Proofs.YtijmhelacmjggaaW.PrintLast Go.Proofs.YtijmhelacmjggaaW.PrintMore Go.Proofs.YtijmhelacmjggaaEv
def laws_FnExactKinds.dom_ (l0_0 : List S171) : Prop := (l0_0.length ≤ maxLen ∧ ∀ y ∈ l0_0, g171 y)
open Classical in
noncomputable def laws_FnExactKinds.f (k : Nat) (l0_0 : List S171) : Option Bool := if laws_FnExactKinds.dom_ l0_0 then some true else none
set_option maxHeartbeats 8000000 in
set_option maxRecDepth 100000 in
theorem laws_FnExactKinds.calls (k : Nat) (A0_0 : Option Addr) (c0_0 : Nat) (l0_0 : List S171) (r : Bool) (w : World) (hr0_0 : Kd.C k171 w A0_0 l0_0.length l0_0) (hc0_0 : l0_0.length ≤ c0_0) (h : laws_FnExactKinds.f k l0_0 = some r) :
  Calls Try.prog 10 #[.agg #[.slice A0_0 l0_0.length c0_0]] w fun e w' => e = .returned (.bool r) ∧ Below w.heap.size w w' := by
  have hok : laws_FnExactKinds.dom_ l0_0 := by
    unfold laws_FnExactKinds.f at h
    split at h
    · assumption
    · simp at h
  have hr : r = true := by
    unfold laws_FnExactKinds.f at h
    rw [if_pos hok] at h
    simpa using h.symm
  subst hr
  clear h
  have HR_l0_0 := Aside0.mk hr0_0
  have HC_l0_0 := Aside0.mk hc0_0
  clear hr0_0 hc0_0
  have HB := Aside0.mk (Below.refl w.heap.size w)
  by_cases hsmall : l0_0.length + ws wMode l0_0 ≤ 1048576
  · obtain ⟨hm0, hg⟩ := hok
    have hm := Nat.le_trans hm0 maxLen_le
    have hs := smallG_of l0_0 hsmall hg
    have hl' := hs.1
    have hh := hMode_all l0_0 hg
    have hcn := nm_few l0_0 hsmall
    have hf := tokKinds_length (l0_0.map cMode) hs
    obtain ⟨_, g0⟩ := ev_get (laws_szGrammar_ev l0_0 1048576 (by omega) (by omega) hm hg)
    rw [if_neg (by omega)] at g0
    obtain ⟨_, g1⟩ := ev_get (laws_toGrammar_ev l0_0 hsmall)
    obtain ⟨_, g2⟩ := ev_get (spec_Kinds_ev (l0_0.map cMode) hs)
    obtain ⟨_, g3⟩ := ev_get (impl_Kinds_ev (l0_0.map cMode) hs)
    obtain ⟨_, g4⟩ := ev_get (laws_eqStringS_ev (tokKinds (l0_0.map cMode)) (by omega))
    obtain ⟨_, g5⟩ := ev_get (laws_eqGrammar_ev (l0_0.map cMode) (by omega) hh)
    obtain ⟨_, g6⟩ := ev_get (laws_markStringS_ev (tokKinds (l0_0.map cMode)) 1 (by omega) (by omega))
    obtain ⟨_, g7⟩ := ev_get (laws_heldStringS_ev (tokKinds (l0_0.map cMode)).length 1 (by omega) (by omega))
    obtain ⟨M, hM⟩ : ∃ M : Nat, sumN nm_Mode (l0_0.map cMode) = M := ⟨_, rfl⟩
    rw [hM] at hcn
    have n1 : decide ((1048576 : Int) - ((l0_0.length + ws wMode l0_0 : Nat) : Int) < 0) = false := decide_eq_false (by omega)
    have n2 : decide ((1 : Int) + (M : Int) < 0) = false := decide_eq_false (by omega)
    have F1 := Aside0.mk (by omega : (1 : Int) + M ≤ 9000000000000000000)
    have F2 := Aside0.mk hM
    generalize tokKinds (l0_0.map cMode) = W at *
    have n3 : decide ((1 : Int) + (W.length : Int) < 0) = false := decide_eq_false (by omega)
    have E0 := Aside0.mk g0
    have E1 := Aside0.mk g1
    have E2 := Aside0.mk g2
    have E3 := Aside0.mk g3
    have E4 := Aside0.mk g4
    have E5 := Aside0.mk g5
    have E6 := Aside0.mk g6
    have E7 := Aside0.mk g7
    clear g0 g1 g2 g3 g4 g5 g6 g7 hcn hf hh hl' hm hm0 hg hs hM
    generalize l0_0.map cMode = X at *
    have T1 : Aside0 True := ⟨trivial⟩
    have T2 : Aside0 True := ⟨trivial⟩
    have T3 : Aside0 True := ⟨trivial⟩
    have T4 : Aside0 True := ⟨trivial⟩
    have T5 : Aside0 True := ⟨trivial⟩
    have T6 : Aside0 True := ⟨trivial⟩
    have T7 : Aside0 True := ⟨trivial⟩
    have T8 : Aside0 True := ⟨trivial⟩
    have T9 : Aside0 True := ⟨trivial⟩
    have T10 : Aside0 True := ⟨trivial⟩
    have T11 : Aside0 True := ⟨trivial⟩
    have T12 : Aside0 True := ⟨trivial⟩
    have T13 : Aside0 True := ⟨trivial⟩
    have T14 : Aside0 True := ⟨trivial⟩
    have T15 : Aside0 True := ⟨trivial⟩
    go_enter Try.func10, Try.ntmps10
    go_wp2_with ((with_reducible refine gate_dst (N := 1) rfl ?_); clear T1; refine box_event ?hg (N := 1) ?hd (cs := #[.slice A0_0 l0_0.length c0_0]) (t := 41) ?hr ?_; (case hd => rfl); (case hg => rfl); (case hr => first | (go_simp; done) | (go_simp; rfl)); intro gb_p0 hg w1 hbox hb; have BK_p0 := Aside0.mk hbox; have GB_p0 := Aside0.mk hg; have LB_p0 := Aside0.mk (blk_lt hbox); have Y1 := Aside0.mk hb.size; replace HB := Aside0.mk (below_step HB.out hb); have hcz_p0_0 : w1.cell? ⟨gb_p0, 0, none⟩ = some (.slice A0_0 l0_0.length c0_0) := (blk_cell BK_p0.out 0).trans rfl; clear hb hg hbox)
    go_wp2_with (go_at_call 25; clear T2; refine (laws_szGrammar.calls _ _ _ _ _ _ _ (Kd.C_below HR_l0_0.out HB.out) (HC_l0_0.out) E0.out).mono ?_; rintro e w2 ⟨rfl, hb⟩; replace BK_p0 := Aside0.mk (blk_below (g := gb_p0) (o := .cells #[.slice A0_0 l0_0.length c0_0] 41 (0, 0)) BK_p0.out hb); replace hcz_p0_0 : w2.cell? ⟨gb_p0, 0, none⟩ = some (.slice A0_0 l0_0.length c0_0) := (blk_cell BK_p0.out 0).trans rfl; have Y2 := Aside0.mk hb.size; replace HB := Aside0.mk (below_step HB.out hb); clear hb)
    go_wp2_with (go_at_call 27; clear T3; refine (laws_toGrammar.calls _ _ _ _ _ _ (Kd.C_below HR_l0_0.out HB.out) (HC_l0_0.out) E1.out).mono ?_; rintro e w3 ⟨v_a, rfl, hO, hb⟩; replace BK_p0 := Aside0.mk (blk_below (g := gb_p0) (o := .cells #[.slice A0_0 l0_0.length c0_0] 41 (0, 0)) BK_p0.out hb); replace hcz_p0_0 : w3.cell? ⟨gb_p0, 0, none⟩ = some (.slice A0_0 l0_0.length c0_0) := (blk_cell BK_p0.out 0).trans rfl; obtain ⟨lo_a, hi_a, hz, hO⟩ := R_born hO HB.out; have Z_a := Aside0.mk hz; clear hz; obtain ⟨A_a, c_a, rfl⟩ := Kd.R_slice hO; have O_a := Aside0.mk hO; clear hO; have Y3 := Aside0.mk hb.size; replace HB := Aside0.mk (below_step HB.out hb); clear hb)
    go_wp2_with (go_at_call 44; clear T4; refine (spec_Kinds.calls _ _ _ _ _ _ (C_of_R O_a.out) (L_of_R O_a.out) E2.out).mono ?_; rintro e w4 ⟨v_w0, rfl, hO, hb⟩; replace O_a := Aside0.mk (Kd.R_below O_a.out hb); replace BK_p0 := Aside0.mk (blk_below (g := gb_p0) (o := .cells #[.slice A0_0 l0_0.length c0_0] 41 (0, 0)) BK_p0.out hb); replace hcz_p0_0 : w4.cell? ⟨gb_p0, 0, none⟩ = some (.slice A0_0 l0_0.length c0_0) := (blk_cell BK_p0.out 0).trans rfl; obtain ⟨lo_w0, hi_w0, hz, hO⟩ := R_born hO HB.out; have Z_w0 := Aside0.mk hz; clear hz; obtain ⟨A_w0, c_w0, rfl⟩ := Kd.R_slice hO; have O_w0 := Aside0.mk hO; clear hO; have Y4 := Aside0.mk hb.size; replace HB := Aside0.mk (below_step HB.out hb); clear hb)
    go_wp2_with (go_at_call 27; clear T5; refine (laws_toGrammar.calls _ _ _ _ _ _ (Kd.C_below HR_l0_0.out HB.out) (HC_l0_0.out) E1.out).mono ?_; rintro e w5 ⟨v_x, rfl, hO, hb⟩; replace O_a := Aside0.mk (Kd.R_below O_a.out hb); replace O_w0 := Aside0.mk (Kd.R_below O_w0.out hb); replace BK_p0 := Aside0.mk (blk_below (g := gb_p0) (o := .cells #[.slice A0_0 l0_0.length c0_0] 41 (0, 0)) BK_p0.out hb); replace hcz_p0_0 : w5.cell? ⟨gb_p0, 0, none⟩ = some (.slice A0_0 l0_0.length c0_0) := (blk_cell BK_p0.out 0).trans rfl; obtain ⟨lo_x, hi_x, hz, hO⟩ := R_born hO HB.out; have Z_x := Aside0.mk hz; clear hz; obtain ⟨A_x, c_x, rfl⟩ := Kd.R_slice hO; have O_x := Aside0.mk hO; clear hO; have Y5 := Aside0.mk hb.size; replace HB := Aside0.mk (below_step HB.out hb); clear hb)
    go_wp2_with (go_at_call 45; clear T6; obtain ⟨w6, hW⟩ : ∃ w_ : World, w_ = w5.alloc (.cells #[.slice A_x X.length c_x] 46) := ⟨_, rfl⟩; obtain ⟨gb_x, hg⟩ : ∃ g_ : Nat, g_ = w5.heap.size := ⟨_, rfl⟩; rw [← hW, ← hg]; have hb : Below w5.heap.size w5 w6 := (by rw [hW]; exact below_alloc (Below.refl _ _) _); have hbox : w6.heap[gb_x]? = some (.cells #[.slice A_x X.length c_x] 46 (0, 0)) := (by rw [hW, hg]; exact blk_new _ _); replace O_a := Aside0.mk (Kd.R_below O_a.out hb); replace O_w0 := Aside0.mk (Kd.R_below O_w0.out hb); replace O_x := Aside0.mk (Kd.R_below O_x.out hb); replace BK_p0 := Aside0.mk (blk_below (g := gb_p0) (o := .cells #[.slice A0_0 l0_0.length c0_0] 41 (0, 0)) BK_p0.out hb); replace hcz_p0_0 : w6.cell? ⟨gb_p0, 0, none⟩ = some (.slice A0_0 l0_0.length c0_0) := (blk_cell BK_p0.out 0).trans rfl; have BK_x := Aside0.mk hbox; have GB_x := Aside0.mk hg; have LB_x := Aside0.mk (blk_lt hbox); have Y6 := Aside0.mk hb.size; replace HB := Aside0.mk (below_step HB.out hb); have hcz_x_0 : w6.cell? ⟨gb_x, 0, none⟩ = some (.slice A_x X.length c_x) := (blk_cell BK_x.out 0).trans rfl; clear hb hg hbox hW; refine (impl_Kinds.calls _ _ _ _ _ _ (C_of_R O_x.out) (L_of_R O_x.out) E3.out).mono ?_; rintro e w7 ⟨v_g, rfl, hO, hb⟩; replace O_a := Aside0.mk (Kd.R_below O_a.out hb); replace O_w0 := Aside0.mk (Kd.R_below O_w0.out hb); replace O_x := Aside0.mk (Kd.R_below O_x.out hb); replace BK_p0 := Aside0.mk (blk_below (g := gb_p0) (o := .cells #[.slice A0_0 l0_0.length c0_0] 41 (0, 0)) BK_p0.out hb); replace hcz_p0_0 : w7.cell? ⟨gb_p0, 0, none⟩ = some (.slice A0_0 l0_0.length c0_0) := (blk_cell BK_p0.out 0).trans rfl; replace BK_x := Aside0.mk (blk_below (g := gb_x) (o := .cells #[.slice A_x X.length c_x] 46 (0, 0)) BK_x.out hb); replace hcz_x_0 : w7.cell? ⟨gb_x, 0, none⟩ = some (.slice A_x X.length c_x) := (blk_cell BK_x.out 0).trans rfl; obtain ⟨lo_g, hi_g, hz, hO⟩ := R_born hO HB.out; have Z_g := Aside0.mk hz; clear hz; obtain ⟨A_g, c_g, rfl⟩ := Kd.R_slice hO; have O_g := Aside0.mk hO; clear hO; have Y7 := Aside0.mk hb.size; replace HB := Aside0.mk (below_step HB.out hb); clear hb)
    go_wp2_with (go_at_call 46; clear T7; refine (laws_eqStringS.calls _ _ _ _ _ _ _ _ _ (C_of_R O_g.out) (L_of_R O_g.out) (C_of_R O_w0.out) (L_of_R O_w0.out) E4.out).mono ?_; rintro e w8 ⟨rfl, hd⟩; have hb := below_drawn hd; replace O_a := Aside0.mk (Kd.R_below O_a.out hb); replace O_w0 := Aside0.mk (Kd.R_below O_w0.out hb); replace O_x := Aside0.mk (Kd.R_below O_x.out hb); replace O_g := Aside0.mk (Kd.R_below O_g.out hb); replace BK_p0 := Aside0.mk (blk_below (g := gb_p0) (o := .cells #[.slice A0_0 l0_0.length c0_0] 41 (0, 0)) BK_p0.out hb); replace hcz_p0_0 : w8.cell? ⟨gb_p0, 0, none⟩ = some (.slice A0_0 l0_0.length c0_0) := (blk_cell BK_p0.out 0).trans rfl; replace BK_x := Aside0.mk (blk_below (g := gb_x) (o := .cells #[.slice A_x X.length c_x] 46 (0, 0)) BK_x.out hb); replace hcz_x_0 : w8.cell? ⟨gb_x, 0, none⟩ = some (.slice A_x X.length c_x) := (blk_cell BK_x.out 0).trans rfl; have Y8 := Aside0.mk hb.size; replace HB := Aside0.mk (below_step HB.out hb); clear hb)
    have hb : Below w8.heap.size w8 w8.drew := below_drew (Below.refl _ _)
    replace O_a := Aside0.mk (Kd.R_below O_a.out hb)
    replace O_w0 := Aside0.mk (Kd.R_below O_w0.out hb)
    replace O_x := Aside0.mk (Kd.R_below O_x.out hb)
    replace O_g := Aside0.mk (Kd.R_below O_g.out hb)
    replace BK_p0 := Aside0.mk (blk_drew BK_p0.out)
    replace hcz_p0_0 : w8.drew.cell? ⟨gb_p0, 0, none⟩ = some (.slice A0_0 l0_0.length c0_0) := (blk_cell BK_p0.out 0).trans rfl
    replace BK_x := Aside0.mk (blk_drew BK_x.out)
    replace hcz_x_0 : w8.drew.cell? ⟨gb_x, 0, none⟩ = some (.slice A_x X.length c_x) := (blk_cell BK_x.out 0).trans rfl
    have Y9 := Aside0.mk hb.size
    replace HB := Aside0.mk (below_step HB.out hb)
    clear hb
    refine start_ (n := 5) (S := fun w' => w'.cell? ⟨gb_x, 0, none⟩ = some (.slice A_x X.length c_x) ∧ w'.cell? ⟨gb_p0, 0, none⟩ = some (.slice A0_0 l0_0.length c0_0)) (ds := []) #[false, false, false, false, false] (by kernel_rfl) rfl rfl ⟨hcz_x_0, hcz_p0_0⟩ (fun hHeld => ?_)
    generalize w8.drew = w9 at O_a O_w0 O_x O_g BK_p0 BK_x hcz_p0_0 hcz_x_0 Y9 HB hHeld ⊢
    refine take_ (i := 0) (N := some 27) (v := ?_) (a' := ?_) #[true, false, false, false, false] rfl rfl (by kernel_rfl) (fun _ _ _ h => h) (Or.inl ⟨by rfl, ?_⟩) hHeld ?_ ?_
    rotate_left
    · rintro w' ⟨s0, s1⟩
      go_simp
      with_reducible rfl
    rotate_left
    · simp only [Act.put, List.setIfInBounds_toArray, List.set_cons_zero, List.set_cons_succ, i64_w, i32_w]
      rfl
    refine take_ (i := 1) (N := some 28) (v := ?_) (a' := ?_) #[true, true, false, false, false] rfl rfl (by kernel_rfl) (fun _ _ _ h => h) (Or.inl ⟨by rfl, ?_⟩) hHeld ?_ ?_
    rotate_left
    · rintro w' ⟨s0, s1⟩
      go_simp
      with_reducible rfl
    rotate_left
    · simp only [Act.put, List.setIfInBounds_toArray, List.set_cons_zero, List.set_cons_succ, i64_w, i32_w]
      rfl
    refine one_ (i := 2) (N := some 29) #[true, true, true, false, false] rfl rfl (by kernel_rfl) (by decide) (fun K hK => ?_)
    refine goes_ Try.func27 (by kernel_rfl) rfl #[.agg #[.slice A0_0 l0_0.length c0_0]] (by rfl) rfl rfl (by (try simp only [List.map_toArray, List.map_cons, List.map_nil]); first | done | rfl | (simp only [List.length_drop, List.length_take]; rfl)) ?_
    with_reducible refine (laws_toGrammar.calls _ _ _ _ _ _ (Kd.C_below HR_l0_0.out HB.out) (HC_l0_0.out) E1.out).mono ?_
    rintro e w10 ⟨v_b, rfl, hO, hb⟩
    refine ⟨_, rfl, ?_⟩
    replace O_a := Aside0.mk (Kd.R_below O_a.out hb)
    replace O_w0 := Aside0.mk (Kd.R_below O_w0.out hb)
    replace O_x := Aside0.mk (Kd.R_below O_x.out hb)
    replace O_g := Aside0.mk (Kd.R_below O_g.out hb)
    replace BK_p0 := Aside0.mk (blk_below (g := gb_p0) (o := .cells #[.slice A0_0 l0_0.length c0_0] 41 (0, 0)) BK_p0.out hb)
    replace hcz_p0_0 : w10.cell? ⟨gb_p0, 0, none⟩ = some (.slice A0_0 l0_0.length c0_0) := (blk_cell BK_p0.out 0).trans rfl
    replace BK_x := Aside0.mk (blk_below (g := gb_x) (o := .cells #[.slice A_x X.length c_x] 46 (0, 0)) BK_x.out hb)
    replace hcz_x_0 : w10.cell? ⟨gb_x, 0, none⟩ = some (.slice A_x X.length c_x) := (blk_cell BK_x.out 0).trans rfl
    obtain ⟨lo_b, hi_b, hz, hO⟩ := R_born hO HB.out
    have Z_b := Aside0.mk hz
    clear hz
    obtain ⟨A_b, c_b, rfl⟩ := Kd.R_slice hO
    have O_b := Aside0.mk hO
    clear hO
    have Y10 := Aside0.mk hb.size
    replace HB := Aside0.mk (below_step HB.out hb)
    clear hb
    refine hK.out _ _ ⟨hcz_x_0, hcz_p0_0⟩ (fun hHeld => ?_)
    clear hK K
    refine norm_ (a' := ?_) ?_ ?_
    rotate_left
    · show Act.put _ (some 29) _ = _
      simp only [Act.put, List.setIfInBounds_toArray, List.set_cons_zero, List.set_cons_succ, i64_w, i32_w]
      rfl
    refine one_ (i := 3) (N := some 30) #[true, true, true, true, false] rfl rfl (by kernel_rfl) (by decide) (fun K hK => ?_)
    refine goes_ Try.func29 (by kernel_rfl) rfl #[.agg #[.slice A_x X.length c_x], .agg #[.slice A_b X.length c_b]] (by rfl) rfl rfl (by (try simp only [List.map_toArray, List.map_cons, List.map_nil]); first | done | rfl | (simp only [List.length_drop, List.length_take]; rfl)) ?_
    with_reducible refine (laws_eqGrammar.calls _ _ _ _ _ _ _ _ _ (C_of_R O_x.out) (L_of_R O_x.out) (C_of_R O_b.out) (L_of_R O_b.out) E5.out).mono ?_
    rintro e w11 ⟨rfl, hb⟩
    refine ⟨_, rfl, ?_⟩
    replace O_a := Aside0.mk (Kd.R_below O_a.out hb)
    replace O_w0 := Aside0.mk (Kd.R_below O_w0.out hb)
    replace O_x := Aside0.mk (Kd.R_below O_x.out hb)
    replace O_g := Aside0.mk (Kd.R_below O_g.out hb)
    replace O_b := Aside0.mk (Kd.R_below O_b.out hb)
    replace BK_p0 := Aside0.mk (blk_below (g := gb_p0) (o := .cells #[.slice A0_0 l0_0.length c0_0] 41 (0, 0)) BK_p0.out hb)
    replace hcz_p0_0 : w11.cell? ⟨gb_p0, 0, none⟩ = some (.slice A0_0 l0_0.length c0_0) := (blk_cell BK_p0.out 0).trans rfl
    replace BK_x := Aside0.mk (blk_below (g := gb_x) (o := .cells #[.slice A_x X.length c_x] 46 (0, 0)) BK_x.out hb)
    replace hcz_x_0 : w11.cell? ⟨gb_x, 0, none⟩ = some (.slice A_x X.length c_x) := (blk_cell BK_x.out 0).trans rfl
    have Y11 := Aside0.mk hb.size
    replace HB := Aside0.mk (below_step HB.out hb)
    clear hb
    refine hK.out _ _ ⟨hcz_x_0, hcz_p0_0⟩ (fun hHeld => ?_)
    clear hK K
    refine norm_ (a' := ?_) ?_ ?_
    rotate_left
    · show Act.put _ (some 30) _ = _
      simp only [Act.put, List.setIfInBounds_toArray, List.set_cons_zero, List.set_cons_succ, i64_w, i32_w]
      rfl
    refine pure_ (i := 4) (N := some 31) (v := ?_) (a' := ?_) #[true, true, true, true, true] rfl rfl (by kernel_rfl) (fun _ _ _ h => h) (Or.inl ⟨by rfl, ?_⟩) ?_ ?_
    rotate_left
    · intro w'
      go_simp
      with_reducible rfl
    rotate_left
    · simp only [Act.put, List.setIfInBounds_toArray, List.set_cons_zero, List.set_cons_succ, i64_w, i32_w]
      rfl
    refine done_ (by kernel_rfl) ?_
    go_wp2_with (go_at_call 41; clear T8; refine (markGrammar_walk _ _ _ _ X 1 M F2.out (by omega) F1.out w _ HB.out O_x.out).mono ?_; rintro e w12 ⟨rfl, hB2, hK⟩; have z0 := GB_p0.out; have z1 := LB_p0.out; have z2 := Y1.out; have z3 := Y2.out; have z4 := Z_a.out; have z5 := Y3.out; have z6 := Z_w0.out; have z7 := Y4.out; have z8 := Z_x.out; have z9 := Y5.out; have z10 := GB_x.out; have z11 := LB_x.out; have z12 := Y6.out; have z13 := Z_g.out; have z14 := Y7.out; have z15 := Y8.out; have z16 := Y9.out; have z17 := Z_b.out; have z18 := Y10.out; have z19 := Y11.out; replace O_a := Aside0.mk (R_beside O_a.out (by omega) hK (by omega)); replace O_w0 := Aside0.mk (R_beside O_w0.out (by omega) hK (by omega)); replace O_g := Aside0.mk (R_beside O_g.out (by omega) hK (by omega)); replace O_b := Aside0.mk (R_beside O_b.out (by omega) hK (by omega)); replace BK_p0 := Aside0.mk ((hK.2 gb_p0 (by omega) (fun h2 => by have y0 := h2.1; have y1 := h2.2; omega)).trans BK_p0.out); replace hcz_p0_0 : w12.cell? ⟨gb_p0, 0, none⟩ = some (.slice A0_0 l0_0.length c0_0) := (blk_cell BK_p0.out 0).trans rfl; replace BK_x := Aside0.mk ((hK.2 gb_x (by omega) (fun h2 => by have y0 := h2.1; have y1 := h2.2; omega)).trans BK_x.out); replace hcz_x_0 : w12.cell? ⟨gb_x, 0, none⟩ = some (.slice A_x X.length c_x) := (blk_cell BK_x.out 0).trans rfl; clear z0 z1 z2 z3 z4 z5 z6 z7 z8 z9 z10 z11 z12 z13 z14 z15 z16 z17 z18 z19; clear O_x; have Y12 := Aside0.mk hK.1; replace HB := Aside0.mk hB2; clear hB2 hK)
    go_wp2_with (go_at_call 46; clear T9; refine (laws_eqStringS.calls _ _ _ _ _ _ _ _ _ (C_of_R O_g.out) (L_of_R O_g.out) (C_of_R O_w0.out) (L_of_R O_w0.out) E4.out).mono ?_; rintro e w13 ⟨rfl, hd⟩; have hb := below_drawn hd; replace O_a := Aside0.mk (Kd.R_below O_a.out hb); replace O_w0 := Aside0.mk (Kd.R_below O_w0.out hb); replace O_g := Aside0.mk (Kd.R_below O_g.out hb); replace O_b := Aside0.mk (Kd.R_below O_b.out hb); replace BK_p0 := Aside0.mk (blk_below (g := gb_p0) (o := .cells #[.slice A0_0 l0_0.length c0_0] 41 (0, 0)) BK_p0.out hb); replace hcz_p0_0 : w13.cell? ⟨gb_p0, 0, none⟩ = some (.slice A0_0 l0_0.length c0_0) := (blk_cell BK_p0.out 0).trans rfl; replace BK_x := Aside0.mk (blk_below (g := gb_x) (o := .cells #[.slice A_x X.length c_x] 46 (0, 0)) BK_x.out hb); replace hcz_x_0 : w13.cell? ⟨gb_x, 0, none⟩ = some (.slice A_x X.length c_x) := (blk_cell BK_x.out 0).trans rfl; have Y13 := Aside0.mk hb.size; replace HB := Aside0.mk (below_step HB.out hb); clear hb)
    go_wp2_with (go_at_call 47; clear T10; refine (laws_markStringS.calls _ _ _ _ _ _ _ w _ HB.out O_g.out E6.out).mono ?_; rintro e w14 ⟨rfl, hO, hB2, hK⟩; have z0 := GB_p0.out; have z1 := LB_p0.out; have z2 := Y1.out; have z3 := Y2.out; have z4 := Z_a.out; have z5 := Y3.out; have z6 := Z_w0.out; have z7 := Y4.out; have z8 := Z_x.out; have z9 := Y5.out; have z10 := GB_x.out; have z11 := LB_x.out; have z12 := Y6.out; have z13 := Z_g.out; have z14 := Y7.out; have z15 := Y8.out; have z16 := Y9.out; have z17 := Z_b.out; have z18 := Y10.out; have z19 := Y11.out; have z20 := Y12.out; have z21 := Y13.out; replace O_a := Aside0.mk (R_beside O_a.out (by omega) hK (by omega)); replace O_w0 := Aside0.mk (R_beside O_w0.out (by omega) hK (by omega)); replace O_b := Aside0.mk (R_beside O_b.out (by omega) hK (by omega)); replace BK_p0 := Aside0.mk ((hK.2 gb_p0 (by omega) (fun h2 => by have y0 := h2.1; have y1 := h2.2; omega)).trans BK_p0.out); replace hcz_p0_0 : w14.cell? ⟨gb_p0, 0, none⟩ = some (.slice A0_0 l0_0.length c0_0) := (blk_cell BK_p0.out 0).trans rfl; replace BK_x := Aside0.mk ((hK.2 gb_x (by omega) (fun h2 => by have y0 := h2.1; have y1 := h2.2; omega)).trans BK_x.out); replace hcz_x_0 : w14.cell? ⟨gb_x, 0, none⟩ = some (.slice A_x X.length c_x) := (blk_cell BK_x.out 0).trans rfl; clear z0 z1 z2 z3 z4 z5 z6 z7 z8 z9 z10 z11 z12 z13 z14 z15 z16 z17 z18 z19 z20 z21; replace O_g := Aside0.mk (R_marked O_g.out hO rfl); have Y14 := Aside0.mk hK.1; replace HB := Aside0.mk hB2; clear hO hB2 hK)
    go_wp2_with (go_at_call 48; clear T11; refine (len_R O_g.out (laws_heldStringS.calls _ _ _ _ _ _ _ (C_of_R O_g.out) (L_of_R O_g.out) E7.out)).mono ?_; rintro e w15 ⟨rfl, hb⟩; replace O_a := Aside0.mk (Kd.R_below O_a.out hb); replace O_w0 := Aside0.mk (Kd.R_below O_w0.out hb); replace O_g := Aside0.mk (Kd.R_below O_g.out hb); replace O_b := Aside0.mk (Kd.R_below O_b.out hb); replace BK_p0 := Aside0.mk (blk_below (g := gb_p0) (o := .cells #[.slice A0_0 l0_0.length c0_0] 41 (0, 0)) BK_p0.out hb); replace hcz_p0_0 : w15.cell? ⟨gb_p0, 0, none⟩ = some (.slice A0_0 l0_0.length c0_0) := (blk_cell BK_p0.out 0).trans rfl; replace BK_x := Aside0.mk (blk_below (g := gb_x) (o := .cells #[.slice A_x X.length c_x] 46 (0, 0)) BK_x.out hb); replace hcz_x_0 : w15.cell? ⟨gb_x, 0, none⟩ = some (.slice A_x X.length c_x) := (blk_cell BK_x.out 0).trans rfl; have Y15 := Aside0.mk hb.size; replace HB := Aside0.mk (below_step HB.out hb); clear hb)
    go_wp2_with (go_at_call 27; clear T12; refine (laws_toGrammar.calls _ _ _ _ _ _ (Kd.C_below HR_l0_0.out HB.out) (HC_l0_0.out) E1.out).mono ?_; rintro e w16 ⟨v_c, rfl, hO, hb⟩; replace O_a := Aside0.mk (Kd.R_below O_a.out hb); replace O_w0 := Aside0.mk (Kd.R_below O_w0.out hb); replace O_g := Aside0.mk (Kd.R_below O_g.out hb); replace O_b := Aside0.mk (Kd.R_below O_b.out hb); replace BK_p0 := Aside0.mk (blk_below (g := gb_p0) (o := .cells #[.slice A0_0 l0_0.length c0_0] 41 (0, 0)) BK_p0.out hb); replace hcz_p0_0 : w16.cell? ⟨gb_p0, 0, none⟩ = some (.slice A0_0 l0_0.length c0_0) := (blk_cell BK_p0.out 0).trans rfl; replace BK_x := Aside0.mk (blk_below (g := gb_x) (o := .cells #[.slice A_x X.length c_x] 46 (0, 0)) BK_x.out hb); replace hcz_x_0 : w16.cell? ⟨gb_x, 0, none⟩ = some (.slice A_x X.length c_x) := (blk_cell BK_x.out 0).trans rfl; obtain ⟨lo_c, hi_c, hz, hO⟩ := R_born hO HB.out; have Z_c := Aside0.mk hz; clear hz; obtain ⟨A_c, c_c, rfl⟩ := Kd.R_slice hO; have O_c := Aside0.mk hO; clear hO; have Y16 := Aside0.mk hb.size; replace HB := Aside0.mk (below_step HB.out hb); clear hb)
    go_wp2_with (go_at_call 45; clear T13; refine (impl_Kinds.calls _ _ _ _ _ _ (C_of_R O_c.out) (L_of_R O_c.out) E3.out).mono ?_; rintro e w17 ⟨v_h, rfl, hO, hb⟩; replace O_a := Aside0.mk (Kd.R_below O_a.out hb); replace O_w0 := Aside0.mk (Kd.R_below O_w0.out hb); replace O_g := Aside0.mk (Kd.R_below O_g.out hb); replace O_b := Aside0.mk (Kd.R_below O_b.out hb); replace O_c := Aside0.mk (Kd.R_below O_c.out hb); replace BK_p0 := Aside0.mk (blk_below (g := gb_p0) (o := .cells #[.slice A0_0 l0_0.length c0_0] 41 (0, 0)) BK_p0.out hb); replace hcz_p0_0 : w17.cell? ⟨gb_p0, 0, none⟩ = some (.slice A0_0 l0_0.length c0_0) := (blk_cell BK_p0.out 0).trans rfl; replace BK_x := Aside0.mk (blk_below (g := gb_x) (o := .cells #[.slice A_x X.length c_x] 46 (0, 0)) BK_x.out hb); replace hcz_x_0 : w17.cell? ⟨gb_x, 0, none⟩ = some (.slice A_x X.length c_x) := (blk_cell BK_x.out 0).trans rfl; obtain ⟨lo_h, hi_h, hz, hO⟩ := R_born hO HB.out; have Z_h := Aside0.mk hz; clear hz; obtain ⟨A_h, c_h, rfl⟩ := Kd.R_slice hO; have O_h := Aside0.mk hO; clear hO; have Y17 := Aside0.mk hb.size; replace HB := Aside0.mk (below_step HB.out hb); clear hb)
    go_wp2_with (go_at_call 46; clear T14; refine (laws_eqStringS.calls _ _ _ _ _ _ _ _ _ (C_of_R O_h.out) (L_of_R O_h.out) (C_of_R O_w0.out) (L_of_R O_w0.out) E4.out).mono ?_; rintro e w18 ⟨rfl, hd⟩; have hb := below_drawn hd; replace O_a := Aside0.mk (Kd.R_below O_a.out hb); replace O_w0 := Aside0.mk (Kd.R_below O_w0.out hb); replace O_g := Aside0.mk (Kd.R_below O_g.out hb); replace O_b := Aside0.mk (Kd.R_below O_b.out hb); replace O_c := Aside0.mk (Kd.R_below O_c.out hb); replace O_h := Aside0.mk (Kd.R_below O_h.out hb); replace BK_p0 := Aside0.mk (blk_below (g := gb_p0) (o := .cells #[.slice A0_0 l0_0.length c0_0] 41 (0, 0)) BK_p0.out hb); replace hcz_p0_0 : w18.cell? ⟨gb_p0, 0, none⟩ = some (.slice A0_0 l0_0.length c0_0) := (blk_cell BK_p0.out 0).trans rfl; replace BK_x := Aside0.mk (blk_below (g := gb_x) (o := .cells #[.slice A_x X.length c_x] 46 (0, 0)) BK_x.out hb); replace hcz_x_0 : w18.cell? ⟨gb_x, 0, none⟩ = some (.slice A_x X.length c_x) := (blk_cell BK_x.out 0).trans rfl; have Y18 := Aside0.mk hb.size; replace HB := Aside0.mk (below_step HB.out hb); clear hb)
    go_wp2_with (go_at_call 48; clear T15; refine (len_R O_g.out (laws_heldStringS.calls _ _ _ _ _ _ _ (C_of_R O_g.out) (L_of_R O_g.out) E7.out)).mono ?_; rintro e w19 ⟨rfl, hb⟩; replace O_a := Aside0.mk (Kd.R_below O_a.out hb); replace O_w0 := Aside0.mk (Kd.R_below O_w0.out hb); replace O_g := Aside0.mk (Kd.R_below O_g.out hb); replace O_b := Aside0.mk (Kd.R_below O_b.out hb); replace O_c := Aside0.mk (Kd.R_below O_c.out hb); replace O_h := Aside0.mk (Kd.R_below O_h.out hb); replace BK_p0 := Aside0.mk (blk_below (g := gb_p0) (o := .cells #[.slice A0_0 l0_0.length c0_0] 41 (0, 0)) BK_p0.out hb); replace hcz_p0_0 : w19.cell? ⟨gb_p0, 0, none⟩ = some (.slice A0_0 l0_0.length c0_0) := (blk_cell BK_p0.out 0).trans rfl; replace BK_x := Aside0.mk (blk_below (g := gb_x) (o := .cells #[.slice A_x X.length c_x] 46 (0, 0)) BK_x.out hb); replace hcz_x_0 : w19.cell? ⟨gb_x, 0, none⟩ = some (.slice A_x X.length c_x) := (blk_cell BK_x.out 0).trans rfl; have Y19 := Aside0.mk hb.size; replace HB := Aside0.mk (below_step HB.out hb); clear hb)
    go_ret
    exact ⟨rfl, HB.out⟩
  · obtain ⟨hm0, hg⟩ := hok
    have hm := Nat.le_trans hm0 maxLen_le
    obtain ⟨_, g0⟩ := ev_get (laws_szGrammar_ev l0_0 1048576 (by omega) (by omega) hm hg)
    rw [if_pos (by omega)] at g0
    have E0 := Aside0.mk g0
    clear g0
    have T1 : Aside0 True := ⟨trivial⟩
    have T2 : Aside0 True := ⟨trivial⟩
    go_enter Try.func10, Try.ntmps10
    go_wp2_with ((with_reducible refine gate_dst (N := 1) rfl ?_); clear T1; refine box_event ?hg (N := 1) ?hd (cs := #[.slice A0_0 l0_0.length c0_0]) (t := 41) ?hr ?_; (case hd => rfl); (case hg => rfl); (case hr => first | (go_simp; done) | (go_simp; rfl)); intro gb_p0 hg w1 hbox hb; have BK_p0 := Aside0.mk hbox; have GB_p0 := Aside0.mk hg; have LB_p0 := Aside0.mk (blk_lt hbox); have Y1 := Aside0.mk hb.size; replace HB := Aside0.mk (below_step HB.out hb); have hcz_p0_0 : w1.cell? ⟨gb_p0, 0, none⟩ = some (.slice A0_0 l0_0.length c0_0) := (blk_cell BK_p0.out 0).trans rfl; clear hb hg hbox)
    go_wp2_with (go_at_call 25; clear T2; refine (laws_szGrammar.calls _ _ _ _ _ _ _ (Kd.C_below HR_l0_0.out HB.out) (HC_l0_0.out) E0.out).mono ?_; rintro e w2 ⟨rfl, hb⟩; replace BK_p0 := Aside0.mk (blk_below (g := gb_p0) (o := .cells #[.slice A0_0 l0_0.length c0_0] 41 (0, 0)) BK_p0.out hb); replace hcz_p0_0 : w2.cell? ⟨gb_p0, 0, none⟩ = some (.slice A0_0 l0_0.length c0_0) := (blk_cell BK_p0.out 0).trans rfl; have Y2 := Aside0.mk hb.size; replace HB := Aside0.mk (below_step HB.out hb); clear hb)
    go_ret
    exact ⟨rfl, HB.out⟩
end Go.Proofs.Ytijmhelacmjggaa.P
namespace Go.Proofs.YtijmhelacmjggaaOpen
open Go.RowKit Go.ChangeShapes Go.WideShapes Go.Proofs.YtijmhelacmjggaaW.PrintWords
set_option linter.unusedVariables false
set_option linter.unusedSimpArgs false
structure Opens {α : Type} (P : Program) (t : TypeId) (k : Kd α) (G : α → Prop) : Prop where
  sz : P.cellsOf t = k.sz
  op : ∀ {H : Type} (enc : TypeId × Value → H) (w : World) (base : Nat) (spare : Nat → Bool) (held : Bool) (fuel : Nat) (cs : List Value) (x : DataW H × List MemPlace), DataW.trod enc P w base spare held fuel t cs = some x → ∃ v, k.K w v cs ∧ G v
variable {P : Program} {t e : TypeId}
theorem opens_int {k : IntKind} (ht : P.underlying t = some (.int k)) (hc : P.cellsOf t = 1) : Opens P t (Kd.int k) (fun n => (Lit.int k n).wf = true) where
  sz := hc
  op := fun enc w base spare held fuel cs x h => by
    obtain ⟨n, rfl, _, hw⟩ := DataW.trod_int ht h
    exact ⟨n, rfl, hw⟩
theorem opens_bool (ht : P.underlying t = some .bool) (hc : P.cellsOf t = 1) : Opens P t Kd.bool (fun _ => True) where
  sz := hc
  op := fun enc w base spare held fuel cs x h => by
    obtain ⟨b, rfl, _⟩ := DataW.trod_bool ht h
    exact ⟨b, rfl, trivial⟩
theorem opens_string (ht : P.underlying t = some .string) (hc : P.cellsOf t = 1) : Opens P t Kd.string (fun s => s.size ≤ maxLen) where
  sz := hc
  op := fun enc w base spare held fuel cs x h => by
    obtain ⟨s, rfl, _, hs⟩ := DataW.trod_string ht h
    exact ⟨s, rfl, hs⟩
theorem exists_list {α : Type} {p : Nat → α → Prop} : ∀ n, (∀ i, i < n → ∃ v, p i v) → ∃ xs : List α, xs.length = n ∧ ∀ i v, xs[i]? = some v → p i v
  | 0, _ => ⟨[], rfl, fun i v h => by simp at h⟩
  | n + 1, h => by
    obtain ⟨xs, hl, hx⟩ := exists_list n (fun i hi => h i (by omega))
    obtain ⟨v, hv⟩ := h n (by omega)
    refine ⟨xs ++ [v], by simp [hl], fun i u hu => ?_⟩
    by_cases hi : i < n
    · rw [List.getElem?_append_left (by omega)] at hu
      exact hx i u hu
    · rw [List.getElem?_append_right (by omega)] at hu
      have : i - xs.length = 0 := by
        have := (List.getElem?_eq_some_iff.1 hu).1
        simp at this
        omega
      rw [this] at hu
      have hi' : i = n := by omega
      subst hi'
      simp at hu
      subst hu
      exact hv
theorem opens_slice {α : Type} {k : Kd α} {G : α → Prop} (ht : P.underlying t = some (.slice e)) (hc : P.cellsOf t = 1) (h : Opens P e k G) : Opens P t (Kd.slice e k) (fun xs => xs.length ≤ maxLen ∧ ∀ x ∈ xs, G x) where
  sz := hc
  op := fun enc w base spare held fuel cs x hx => by
    rcases DataW.trod_slice ht hx with ⟨rfl, rfl⟩ | ⟨a, len, cap, elems, rest, n, _, rfl, _, _, hl, hm, hlen, hel, _, _⟩
    · exact ⟨[], ⟨none, 0, rfl, Nat.le_refl _, Kd.C_nil k w⟩, by simp, fun x hx => absurd hx List.not_mem_nil⟩
    · have each : ∀ i, i < len → ∃ v, G v ∧ ∃ c, c.length = k.sz ∧ k.K w v c ∧ ∀ j u, c[j]? = some u → w.cell? (a.add (i * k.sz + j)) = some u := by
        intro i hi
        have h1 := hel i hi
        rw [List.getElem?_eq_getElem (by omega), Option.bind_eq_some_iff, h.sz] at h1
        obtain ⟨c, hc1, hc2⟩ := h1
        obtain ⟨v, hv, hg⟩ := h.op enc w base spare held n c _ hc2
        obtain ⟨_, hcl, hcell⟩ := World.cells?_some hc1
        refine ⟨v, hg, c, hcl, hv, fun j u hu => ?_⟩
        have hj : j < k.sz := by
          have := (List.getElem?_eq_some_iff.1 hu).1
          omega
        rw [← Addr.add_add, hcell j hj]
        exact hu
      obtain ⟨xs, hxl, hx⟩ := exists_list len each
      have hmx : (maxLen : Nat) ≤ 9223372036854775807 := by unfold maxLen; omega
      refine ⟨xs, ⟨some a, cap, by rw [hxl], by omega, ?_⟩, by omega, fun x hx' => ?_⟩
      · refine ⟨rfl, by omega, fun _ => ⟨a, rfl, fun j p hp => ?_⟩⟩
        obtain ⟨_, c, h1, h2, h3⟩ := hx j p hp
        exact ⟨c, h1, h2, h3⟩
      · obtain ⟨i, hi⟩ := List.mem_iff_getElem?.1 hx'
        exact (hx i x hi).1
/-- A struct's fields from a cell on. -/
structure Fields {α : Type} (P : Program) (fs : List Field) (off : Nat) (k : Kd α) (G : α → Prop) : Prop where
  from_ : ∀ f ∈ fs, off ≤ f.offset
  op : ∀ {H : Type} (enc : TypeId × Value → H) (w : World) (base : Nat) (spare : Nat → Bool) (held : Bool) (n : Nat) (cs : List Value), cs.length = k.sz → (∀ f ∈ fs, ∃ y, DataW.trod enc P w base spare held n f.type ((cs.drop (f.offset - off)).take (P.cellsOf f.type)) = some y) → ∃ v, k.K w v cs ∧ G v
theorem fields_one {α : Type} {k : Kd α} {G : α → Prop} {f : Field} (h : Opens P f.type k G) : Fields P [f] f.offset k G where
  from_ := fun g hg => by rw [List.mem_singleton.1 hg]; exact Nat.le_refl _
  op := fun enc w base spare held n cs hl hf => by
    obtain ⟨y, hy⟩ := hf f (by simp)
    rw [Nat.sub_self, List.drop_zero, h.sz, ← hl, List.take_length] at hy
    exact h.op enc w base spare held n cs y hy
theorem fields_cons {α β : Type} {k : Kd α} {k' : Kd β} {G : α → Prop} {G' : β → Prop} {f : Field} {fs : List Field} (h : Opens P f.type k G) (hs : Fields P fs (f.offset + k.sz) k' G') : Fields P (f :: fs) f.offset (Kd.pair k k') (fun x => G x.1 ∧ G' x.2) where
  from_ := fun g hg => by
    rcases List.mem_cons.1 hg with rfl | hg
    · exact Nat.le_refl _
    · have := hs.from_ g hg
      omega
  op := fun enc w base spare held n cs hl hf => by
    have hl' : cs.length = k.sz + k'.sz := hl
    obtain ⟨y, hy⟩ := hf f (by simp)
    rw [Nat.sub_self, List.drop_zero, h.sz] at hy
    obtain ⟨v, hv, hg⟩ := h.op enc w base spare held n _ y hy
    obtain ⟨u, hu, hg'⟩ := hs.op enc w base spare held n (cs.drop k.sz) (by rw [List.length_drop]; omega) (fun g hg => by
      obtain ⟨y, hy⟩ := hf g (by simp [hg])
      refine ⟨y, ?_⟩
      have := hs.from_ g hg
      rw [List.drop_drop, show k.sz + (g.offset - (f.offset + k.sz)) = g.offset - f.offset by omega]
      exact hy)
    exact ⟨(v, u), ⟨cs.take k.sz, cs.drop k.sz, (List.take_append_drop _ _).symm, hv, hu⟩, hg, hg'⟩
theorem opens_struct {α : Type} {k : Kd α} {G : α → Prop} {fs : Array Field} (ht : P.underlying t = some (.struct fs)) (hc : P.cellsOf t = k.sz) (h : Fields P fs.toList 0 k G) : Opens P t k G where
  sz := hc
  op := fun enc w base spare held fuel cs x hx => by
    obtain ⟨xs, n, _, _, hl, hlen, hf⟩ := DataW.trod_struct ht hx
    refine h.op enc w base spare held n cs (hl.trans hc) (fun f hf' => ?_)
    obtain ⟨i, hi⟩ := List.mem_iff_getElem?.1 hf'
    rw [Array.getElem?_toList] at hi
    have h1 := hf i f hi
    have : i < fs.size := by
      have := (Array.getElem?_eq_some_iff.1 hi).1
      exact this
    rw [List.getElem?_eq_getElem (by omega)] at h1
    rw [Nat.sub_zero]
    exact ⟨_, h1⟩
theorem opens_iso {α β : Type} {k : Kd α} {G : α → Prop} (f : β → α) (g : α → β) (hfg : ∀ x, f (g x) = x) (h : Opens P t k G) : Opens P t (Kd.iso k f) (fun y => G (f y)) where
  sz := h.sz
  op := fun enc w base spare held fuel cs x hx => by
    obtain ⟨v, hv, hg⟩ := h.op enc w base spare held fuel cs x hx
    exact ⟨g v, by show k.K w (f (g v)) cs; rw [hfg]; exact hv, by rw [hfg]; exact hg⟩
theorem opens_imp {α : Type} {k : Kd α} {G G' : α → Prop} (h : Opens P t k G) (hg : ∀ x, G x → G' x) : Opens P t k G' where
  sz := h.sz
  op := fun enc w base spare held fuel cs x hx => by
    obtain ⟨v, hv, hh⟩ := h.op enc w base spare held fuel cs x hx
    exact ⟨v, hv, hg v hh⟩
end Go.Proofs.YtijmhelacmjggaaOpen
set_option linter.unusedVariables false
namespace Go.Proofs.Ytijmhelacmjggaa.fnExactKinds.Pure
open Go.RowKit Go.Proofs.YtijmhelacmjggaaW.PrintWords Go.Proofs.YtijmhelacmjggaaW.PrintLast Go.Proofs.Ytijmhelacmjggaa.P Go.Proofs.YtijmhelacmjggaaEv
theorem pure_FnExactKinds : ∀ (l0_0 : List S171), (l0_0.length ≤ maxLen ∧ ∀ y ∈ l0_0, g171 y) → ∃ k, laws_FnExactKinds.f k l0_0 = some true := by
  intro l0_0 h0
  exact ⟨0, if_pos (h0)⟩
end Go.Proofs.Ytijmhelacmjggaa.fnExactKinds.Pure
-- The kit's printed words WSized, cut down by wip/gen/pack.py to what this proof reaches.
namespace Go.Proofs.Ytijmhelacmjggaa.fnExactKinds
open Go.ChangeShapes Go.WideShapes Go.ChangeAt Go.RowKit Go.Proofs.YtijmhelacmjggaaW.PrintWords Go.Proofs.YtijmhelacmjggaaOpen Go.Proofs.Ytijmhelacmjggaa.P
open Go.ChangeMaps (open_string shut_string)
set_option linter.unusedVariables false
set_option linter.unusedSimpArgs false
theorem own : ownKnob Try.prog.godebug = none := by kernel_rfl
theorem laidOut : laidOutB Try.prog = true := by kernel_rfl
theorem o210 : Opens Try.prog 210 k210 g210 := opens_imp (opens_iso (fun x : S210 => (x.f0, x.f1)) (fun p => ⟨p.1, p.2⟩) (fun _ => rfl) (opens_struct Try.underlying210 (by kernel_rfl) (fields_cons (opens_int Try.underlying2 (by kernel_rfl)) (fields_one (opens_int Try.underlying2 (by kernel_rfl)))))) (fun _ h => h)
theorem o152 : Opens Try.prog 152 k152 g152 := opens_imp (opens_iso (fun x : S152 => (x.f0, x.f1, x.f2, x.f3, x.f4)) (fun p => ⟨p.1, p.2.1, p.2.2.1, p.2.2.2.1, p.2.2.2.2⟩) (fun _ => rfl) (opens_struct Try.underlying152 (by kernel_rfl) (fields_cons (opens_int Try.underlying2 (by kernel_rfl)) (fields_cons (opens_slice Try.underlying150 (by kernel_rfl) o210) (fields_cons (opens_slice Try.underlying56 (by kernel_rfl) (opens_int Try.underlying2 (by kernel_rfl))) (fields_cons (opens_int Try.underlying2 (by kernel_rfl)) (fields_one (opens_int Try.underlying2 (by kernel_rfl))))))))) (fun _ h => h)
theorem o24 : Opens Try.prog 24 k24 g24 := opens_imp (opens_iso (fun x : S24 => x.f0) (fun p => ⟨p⟩) (fun _ => rfl) (opens_struct Try.underlying24 (by kernel_rfl) (fields_one (opens_slice Try.underlying22 (by kernel_rfl) o152)))) (fun _ h => h)
theorem o218 : Opens Try.prog 218 k218 g218 := opens_imp (opens_iso (fun x : S218 => (x.f0, x.f1, x.f2, x.f3, x.f4)) (fun p => ⟨p.1, p.2.1, p.2.2.1, p.2.2.2.1, p.2.2.2.2⟩) (fun _ => rfl) (opens_struct Try.underlying218 (by kernel_rfl) (fields_cons (opens_string Try.underlying9 (by kernel_rfl)) (fields_cons o24 (fields_cons (opens_bool Try.underlying4 (by kernel_rfl)) (fields_cons (opens_int Try.underlying2 (by kernel_rfl)) (fields_one (opens_string Try.underlying9 (by kernel_rfl))))))))) (fun _ h => h)
theorem o171 : Opens Try.prog 171 k171 g171 := opens_imp (opens_iso (fun x : S171 => (x.f0, x.f1)) (fun p => ⟨p.1, p.2⟩) (fun _ => rfl) (opens_struct Try.underlying171 (by kernel_rfl) (fields_cons (opens_string Try.underlying9 (by kernel_rfl)) (fields_one (opens_slice Try.underlying169 (by kernel_rfl) o218))))) (fun _ h => h)
set_option maxRecDepth 100000 in
theorem lifted (os : Os) (started : os.Started) (H : Type) (enc : TypeId × Value → H) :
    ReturnsInHanded {} Try.checked os 10 .any (Rows.fnExactKindsSpec.pre6 enc Try.prog Try.f10 Rows.fnExactKindsRow.domain false) (Rows.fnExactKindsSpec.post enc Try.prog Try.f10 false true false false) := by
  refine returnsInHanded_of_change_sized (C := Try.checked) own started (by kernel_rfl) Try.func10
    (ChangeSpec.witness6 (enc := enc) (C := Try.checked) false ⟨#[], #[.agg #[.slice none 0 0]], []⟩ 8 (by kernel_rfl) (by kernel_rfl) (by kernel_rfl) (by kernel_rfl)) ?_
  intro W base args ds gs before hval0 hW hcnd hsz0 _
  have hsz : (DataW.weightsEach Try.prog (Try.f10.params.toList ++ Rows.fnExactKindsSpec.plain.varTypes Try.prog) (ds ++ gs)).all (· ≤ reachBytes) = true := hsz0
  have hval : ∀ (j : Nat) t v, Try.f10.params[j]? = some t → args[j]? = some v → Value.okWide Try.prog W .any base t v := hval0
  have hW' := hW
  obtain ⟨p, q, hA0, hV, rfl, hfz, hnd⟩ := hW
  have hA : DataW.TrodAll enc Try.prog W 0 (fun _ => true) true Try.f10.params.toList args.toList ds p := hA0
  rw [Try.params10] at hA hval hsz
  obtain ⟨v0, vs0, d0, ds0, p0, q0, hargs, rfl, rfl, h0, r0⟩ := trodAll_cons hA
  obtain ⟨rfl, rfl, rfl⟩ := trodAll_nil r0
  obtain rfl : args = #[v0] := by cases args; simp_all
  obtain ⟨rfl, rfl⟩ := trodVars_none hV
  have k0' := h0
  have lt0 : ∀ x ∈ p0, x.block < W.heap.size := by obtain ⟨m, hm⟩ := k0'; exact DataW.trod_lt m _ _ _ hm
  obtain ⟨cs0, rfl, hn0⟩ := okWide_struct Try.underlying41 (hval 0 41 v0 rfl rfl)
  obtain ⟨fuel0, hf0⟩ := h0
  have hf0' : DataW.trod enc Try.prog W 0 (fun _ => true) true fuel0 41 cs0.toList = some (d0, p0) := hf0
  obtain ⟨x0, hK0, hG0⟩ := (opens_struct Try.underlying41 (by kernel_rfl) (fields_one (opens_slice Try.underlying39 (by kernel_rfl) o171))).op enc W 0 (fun _ => true) true fuel0 _ _ hf0'
  have hG0' := hG0
  obtain ⟨A0_0, c0_0, hs0_0, hl0_0, hC0_0⟩ := hK0
  obtain rfl : cs0 = #[.slice A0_0 x0.length c0_0] := by
    apply Array.ext'
    simp only [hs0_0, List.cons_append, List.nil_append]
  clear hA0 hval0 hsz0 hsz
  obtain ⟨k, hk⟩ := Pure.pure_FnExactKinds _ hG0'
  refine (laws_FnExactKinds.calls k A0_0 c0_0 _ true W hC0_0 hl0_0 hk).mono fun e W' ⟨he, bel0⟩ => ?_
  have bel : Below W.heap.size W W' := bel0
  subst he
  exact ⟨_, rfl, _, _, _, [], _, [], hW', trodAll_mk1 (shut_bool Try.underlying4 _), (trodAll_cons_mk (Below.trod laidOut (by kernel_rfl) (of_decide_eq_true (by kernel_rfl)) k0' bel lt0) trodAll_mk0), rfl, bel.frame _, fun h => by cases h⟩
theorem over : Rows.fnExactKindsRow.holds Try.pinned (OpenSpec.ofChange Rows.fnExactKindsSpec) :=
  OpenClaim.holds_of_wide 10 Try.f10 rfl rfl rfl rfl rfl rfl rfl ⟨rfl, rfl, rfl, rfl, rfl⟩ rfl rfl rfl rfl rfl (by kernel_rfl) Try.func10 (by kernel_rfl)
    (of_decide_eq_true (by kernel_rfl)) (by unfold Func.isWrapper; first | (rw [if_pos (by decide +kernel)]; kernel_rfl) | (rw [if_neg (by decide +kernel)]; exact ⟨rfl, rfl⟩))
    (fun os started H enc _ => lifted os started H enc)
theorem proved : Rows.FnExactKindsSaid := over
#print axioms proved
end Go.Proofs.Ytijmhelacmjggaa.fnExactKinds
namespace Go.Proofs.Ytijmhelacmjggaa
/-- The row, under a short name, for the claim. -/
theorem fnExactKinds_holds : Rows.FnExactKindsSaid := fnExactKinds.proved
end Go.Proofs.Ytijmhelacmjggaa
