/- The law FnExactFirstOf holds for every call: part 6 of 6 of the proof (the row). Conditions: none beyond what the given row says. -/
import Derived.Test.YtijmhelacmjggaaMFnExactFirstOf0
import Derived.Test.YtijmhelacmjggaaMFnExactFirstOf1
import Derived.Test.YtijmhelacmjggaaMFnExactFirstOf4
import Derived.Test.YtijmhelacmjggaaMFnExactFirstOf3
import Derived.ChangeSlices
import Derived.ChangeArms
import Derived.SizedLaws
import Derived.Test.YtijmhelacmjggaaRows
import Derived.WalkKit
import Derived.ProofKit
import Derived.OpenShut
import Derived.ShutString
import Derived.ChangeOld
import Derived.Below
set_option maxHeartbeats 16000000
set_option maxRecDepth 100000
set_option linter.unusedVariables false
set_option linter.unusedSimpArgs false
namespace Go.Proofs.Ytijmhelacmjggaa.P
open Go.RowKit Go.Proofs.YtijmhelacmjggaaW.PrintWords Go.Proofs.YtijmhelacmjggaaW.PrintLast Go.Proofs.YtijmhelacmjggaaW.PrintMore Go.Proofs.YtijmhelacmjggaaEv
def laws_FnExactFirstOf.dom_ (l0_0 : List S152) : Prop := (l0_0.length ≤ maxLen ∧ ∀ y ∈ l0_0, g152 y)
open Classical in
noncomputable def laws_FnExactFirstOf.f (k : Nat) (l0_0 : List S152) : Option Bool := if laws_FnExactFirstOf.dom_ l0_0 then some true else none
theorem laws_FnExactFirstOf.calls (k : Nat) (A0_0 : Option Addr) (c0_0 : Nat) (l0_0 : List S152) (r : Bool) (w : World) (hr0_0 : Kd.C k152 w A0_0 l0_0.length l0_0) (hc0_0 : l0_0.length ≤ c0_0) (h : laws_FnExactFirstOf.f k l0_0 = some r) :
  Calls Try.prog 5 #[.agg #[.slice A0_0 l0_0.length c0_0]] w fun e w' => e = .returned (.bool r) ∧ Below w.heap.size w w' := by
  have hok : laws_FnExactFirstOf.dom_ l0_0 := by
    unfold laws_FnExactFirstOf.f at h
    split at h
    · assumption
    · simp at h
  have hr : r = true := by
    unfold laws_FnExactFirstOf.f at h
    rw [if_pos hok] at h
    simpa using h.symm
  subst hr
  clear h
  have HR_l0_0 := q_ hr0_0
  have HC_l0_0 := q_ hc0_0
  clear hr0_0 hc0_0
  have HB := q_ (Below.refl w.heap.size w)
  by_cases hsmall : l0_0.length + ws wRNode l0_0 ≤ 1048576
  · obtain ⟨hm0, hg⟩ := hok
    have hm := Nat.le_trans hm0 maxLen_le
    have hl' : (l0_0.map cRNode).length ≤ 1048576 := by simp; omega
    have hh : ∀ x ∈ l0_0.map cRNode, h156 x := fun y hy => by obtain ⟨z, hz, rfl⟩ := List.mem_map.1 hy; exact hRNode_of_g (hg z hz)
    have hcn := Nat.le_trans (sumN_few nm_RNode cRNode wRNode 3 nm_RNode_few l0_0) (Nat.mul_le_mul_left 3 hsmall)
    obtain ⟨W, hf, ei, es⟩ := first_both (l0_0.map cRNode) hl' (fun x hx => (hh x hx).2)
    obtain ⟨_, g0⟩ := ev_get (laws_szRx_ev l0_0 1048576 (by omega) (by omega) hm hg)
    rw [if_neg (by omega)] at g0
    obtain ⟨_, g1⟩ := ev_get (laws_toRx_ev l0_0 hsmall)
    obtain ⟨_, g2⟩ := ev_get es
    obtain ⟨_, g3⟩ := ev_get ei
    obtain ⟨_, g4⟩ := ev_get (laws_eqSpanS_ev W (by omega))
    obtain ⟨_, g5⟩ := ev_get (laws_eqRx_ev (l0_0.map cRNode) (by omega) hh)
    obtain ⟨_, g6⟩ := ev_get (laws_markSpanS_ev W 1 (by omega) (by omega))
    obtain ⟨_, g7⟩ := ev_get (laws_heldSpanS_ev W.length 1 (by omega) (by omega))
    obtain ⟨M, hM⟩ : ∃ M : Nat, sumN nm_RNode (l0_0.map cRNode) = M := ⟨_, rfl⟩
    rw [hM] at hcn
    have n1 : decide ((1048576 : Int) - ((l0_0.length + ws wRNode l0_0 : Nat) : Int) < 0) = false := decide_eq_false (by omega)
    have n2 : decide ((1 : Int) + (M : Int) < 0) = false := decide_eq_false (by omega)
    have F1 := q_ (by omega : (1 : Int) + M ≤ 9000000000000000000)
    have F2 := q_ hM
    have n3 : decide ((1 : Int) + 2 * (W.length : Int) < 0) = false := decide_eq_false (by omega)
    have E0 := q_ g0
    have E1 := q_ g1
    have E2 := q_ g2
    have E3 := q_ g3
    have E4 := q_ g4
    have E5 := q_ g5
    have E6 := q_ g6
    have E7 := q_ g7
    clear g0 g1 g2 g3 g4 g5 g6 g7 hcn hf hh hl' hm hm0 hg hM ei es
    generalize l0_0.map cRNode = X at *
    have T1 : J0 True := ⟨trivial⟩
    have T2 : J0 True := ⟨trivial⟩
    have T3 : J0 True := ⟨trivial⟩
    have T4 : J0 True := ⟨trivial⟩
    have T5 : J0 True := ⟨trivial⟩
    have T6 : J0 True := ⟨trivial⟩
    have T7 : J0 True := ⟨trivial⟩
    have T8 : J0 True := ⟨trivial⟩
    have T9 : J0 True := ⟨trivial⟩
    have T10 : J0 True := ⟨trivial⟩
    have T11 : J0 True := ⟨trivial⟩
    have T12 : J0 True := ⟨trivial⟩
    have T13 : J0 True := ⟨trivial⟩
    have T14 : J0 True := ⟨trivial⟩
    have T15 : J0 True := ⟨trivial⟩
    go_enter Try.func5, Try.ntmps5
    go_wp2_with ((with_reducible refine gate_dst (N := 1) rfl ?_); clear T1; refine box_event ?hg (N := 1) ?hd (cs := #[.slice A0_0 l0_0.length c0_0]) (t := 24) ?hr ?_; (case hd => rfl); (case hg => rfl); (case hr => first | (go_simp; done) | (go_simp; rfl)); intro gb_p0 hg w1 hbox hb; have BK_p0 := q_ hbox; have GB_p0 := q_ hg; have LB_p0 := q_ (blk_lt hbox); have Y1 := q_ hb.size; replace HB := sb_ HB hb; have hcz_p0_0 : w1.cell? ⟨gb_p0, 0, none⟩ = some (.slice A0_0 l0_0.length c0_0) := (blk_cell BK_p0.o 0).trans rfl; clear hb hg hbox)
    go_wp2_with (go_at_call 12; clear T2; refine (laws_szRx.calls _ _ _ _ _ _ _ (Kd.C_below HR_l0_0.o HB.o) (HC_l0_0.o) E0.o).mono ?_; rintro e w2 ⟨rfl, hb⟩; replace BK_p0 := lb_ BK_p0 hb; replace hcz_p0_0 := (d1_ BK_p0).1; have Y2 := q_ hb.size; replace HB := sb_ HB hb; clear hb)
    go_wp2_with (go_at_call 14; clear T3; refine (laws_toRx.calls _ _ _ _ _ _ (Kd.C_below HR_l0_0.o HB.o) (HC_l0_0.o) E1.o).mono ?_; rintro e w3 ⟨v_a, rfl, hO, hb⟩; replace BK_p0 := lb_ BK_p0 hb; replace hcz_p0_0 := (d1_ BK_p0).1; obtain ⟨lo_a, hi_a, hz, hO⟩ := S_born hO HB.o; have Z_a := q_ hz; clear hz; obtain ⟨A_a, c_a, rfl⟩ := Kd.S_slice hO; have O_a := q_ hO; clear hO; have Y3 := q_ hb.size; replace HB := sb_ HB hb; clear hb)
    go_wp2_with (go_at_call 19; clear T4; refine (spec_FirstOf.calls _ _ _ _ _ _ (C_of_S O_a.o) (L_of_S O_a.o) E2.o).mono ?_; rintro e w4 ⟨v_w0, rfl, hO, hb⟩; replace O_a := Sb_ O_a hb; replace BK_p0 := lb_ BK_p0 hb; replace hcz_p0_0 := (d1_ BK_p0).1; obtain ⟨lo_w0, hi_w0, hz, hO⟩ := R_born hO HB.o; have Z_w0 := q_ hz; clear hz; obtain ⟨A_w0, c_w0, rfl⟩ := Kd.R_slice hO; have O_w0 := q_ hO; clear hO; have Y4 := q_ hb.size; replace HB := sb_ HB hb; clear hb)
    go_wp2_with (go_at_call 14; clear T5; refine (laws_toRx.calls _ _ _ _ _ _ (Kd.C_below HR_l0_0.o HB.o) (HC_l0_0.o) E1.o).mono ?_; rintro e w5 ⟨v_x, rfl, hO, hb⟩; replace O_a := Sb_ O_a hb; replace O_w0 := Rb_ O_w0 hb; replace BK_p0 := lb_ BK_p0 hb; replace hcz_p0_0 := (d1_ BK_p0).1; obtain ⟨lo_x, hi_x, hz, hO⟩ := S_born hO HB.o; have Z_x := q_ hz; clear hz; obtain ⟨A_x, c_x, rfl⟩ := Kd.S_slice hO; have O_x := q_ hO; clear hO; have Y5 := q_ hb.size; replace HB := sb_ HB hb; clear hb)
    go_wp2_with (go_at_call 20; clear T6; obtain ⟨w6, hW⟩ : ∃ w_ : World, w_ = w5.alloc (.cells #[.slice A_x X.length c_x] 29) := ⟨_, rfl⟩; obtain ⟨gb_x, hg⟩ : ∃ g_ : Nat, g_ = w5.heap.size := ⟨_, rfl⟩; rw [← hW, ← hg]; have hb : Below w5.heap.size w5 w6 := (by rw [hW]; exact below_alloc (Below.refl _ _) _); have hbox : w6.heap[gb_x]? = some (.cells #[.slice A_x X.length c_x] 29 (0, 0)) := (by rw [hW, hg]; exact blk_new _ _); replace O_a := Sb_ O_a hb; replace O_w0 := Rb_ O_w0 hb; replace O_x := Sb_ O_x hb; replace BK_p0 := lb_ BK_p0 hb; replace hcz_p0_0 := (d1_ BK_p0).1; have BK_x := q_ hbox; have GB_x := q_ hg; have LB_x := q_ (blk_lt hbox); have Y6 := q_ hb.size; replace HB := sb_ HB hb; have hcz_x_0 : w6.cell? ⟨gb_x, 0, none⟩ = some (.slice A_x X.length c_x) := (blk_cell BK_x.o 0).trans rfl; clear hb hg hbox hW; refine (impl_FirstOf.calls _ _ _ _ _ _ (C_of_S O_x.o) (L_of_S O_x.o) E3.o).mono ?_; rintro e w7 ⟨v_g, rfl, hO, hb⟩; replace O_a := Sb_ O_a hb; replace O_w0 := Rb_ O_w0 hb; replace O_x := Sb_ O_x hb; replace BK_p0 := lb_ BK_p0 hb; replace hcz_p0_0 := (d1_ BK_p0).1; replace BK_x := lb_ BK_x hb; replace hcz_x_0 := (d1_ BK_x).1; obtain ⟨lo_g, hi_g, hz, hO⟩ := R_born hO HB.o; have Z_g := q_ hz; clear hz; obtain ⟨A_g, c_g, rfl⟩ := Kd.R_slice hO; have O_g := q_ hO; clear hO; have Y7 := q_ hb.size; replace HB := sb_ HB hb; clear hb)
    go_wp2_with (go_at_call 21; clear T7; refine (laws_eqSpanS.calls _ _ _ _ _ _ _ _ _ (C_of_R O_g.o) (L_of_R O_g.o) (C_of_R O_w0.o) (L_of_R O_w0.o) E4.o).mono ?_; rintro e w8 ⟨rfl, hb⟩; replace O_a := Sb_ O_a hb; replace O_w0 := Rb_ O_w0 hb; replace O_x := Sb_ O_x hb; replace O_g := Rb_ O_g hb; replace BK_p0 := lb_ BK_p0 hb; replace hcz_p0_0 := (d1_ BK_p0).1; replace BK_x := lb_ BK_x hb; replace hcz_x_0 := (d1_ BK_x).1; have Y8 := q_ hb.size; replace HB := sb_ HB hb; clear hb)
    have hb : Below w8.heap.size w8 w8.drew := below_drew (Below.refl _ _)
    replace O_a := Sb_ O_a hb
    replace O_w0 := Rb_ O_w0 hb
    replace O_x := Sb_ O_x hb
    replace O_g := Rb_ O_g hb
    replace BK_p0 := q_ (blk_drew BK_p0.o)
    replace hcz_p0_0 : w8.drew.cell? ⟨gb_p0, 0, none⟩ = some (.slice A0_0 l0_0.length c0_0) := (blk_cell BK_p0.o 0).trans rfl
    replace BK_x := q_ (blk_drew BK_x.o)
    replace hcz_x_0 : w8.drew.cell? ⟨gb_x, 0, none⟩ = some (.slice A_x X.length c_x) := (blk_cell BK_x.o 0).trans rfl
    have Y9 := q_ hb.size
    replace HB := sb_ HB hb
    clear hb
    refine start_ (n := 5) (S := fun w' => w'.cell? ⟨gb_x, 0, none⟩ = some (.slice A_x X.length c_x) ∧ w'.cell? ⟨gb_p0, 0, none⟩ = some (.slice A0_0 l0_0.length c0_0)) (ds := []) #[false, false, false, false, false] (by kernel_rfl) rfl rfl ⟨hcz_x_0, hcz_p0_0⟩ (fun hHeld => ?_)
    generalize w8.drew = w9 at O_a O_w0 O_x O_g BK_p0 BK_x hcz_p0_0 hcz_x_0 Y9 HB hHeld ⊢
    refine take_ (i := 0) (N := some 27) (v := ?_) (a' := ?_) #[true, false, false, false, false] rfl rfl (by kernel_rfl) (fun _ _ _ h => h) (Or.inl ⟨by rfl, ?_⟩) hHeld ?_ ?_
    rotate_left
    · rintro w' ⟨s0, s1⟩
      go_simp
      with_reducible rfl
    rotate_left
    · simp only [Act.put, List.setIfInBounds_toArray, List.set_cons_zero, List.set_cons_succ, i64_w, i32_w]
      rfl
    refine take_ (i := 1) (N := some 28) (v := ?_) (a' := ?_) #[true, true, false, false, false] rfl rfl (by kernel_rfl) (fun _ _ _ h => h) (Or.inl ⟨by rfl, ?_⟩) hHeld ?_ ?_
    rotate_left
    · rintro w' ⟨s0, s1⟩
      go_simp
      with_reducible rfl
    rotate_left
    · simp only [Act.put, List.setIfInBounds_toArray, List.set_cons_zero, List.set_cons_succ, i64_w, i32_w]
      rfl
    refine one_ (i := 2) (N := some 29) #[true, true, true, false, false] rfl rfl (by kernel_rfl) (by decide) (fun K hK => ?_)
    refine goes_ Try.func14 (by kernel_rfl) rfl #[.agg #[.slice A0_0 l0_0.length c0_0]] (by rfl) rfl rfl (by (try simp only [List.map_toArray, List.map_cons, List.map_nil]); first | done | rfl | (simp only [List.length_drop, List.length_take]; rfl)) ?_
    with_reducible refine (laws_toRx.calls _ _ _ _ _ _ (Kd.C_below HR_l0_0.o HB.o) (HC_l0_0.o) E1.o).mono ?_
    rintro e w10 ⟨v_b, rfl, hO, hb⟩
    refine ⟨_, rfl, ?_⟩
    replace O_a := Sb_ O_a hb
    replace O_w0 := Rb_ O_w0 hb
    replace O_x := Sb_ O_x hb
    replace O_g := Rb_ O_g hb
    replace BK_p0 := lb_ BK_p0 hb
    replace hcz_p0_0 := (d1_ BK_p0).1
    replace BK_x := lb_ BK_x hb
    replace hcz_x_0 := (d1_ BK_x).1
    obtain ⟨lo_b, hi_b, hz, hO⟩ := S_born hO HB.o
    have Z_b := q_ hz
    clear hz
    obtain ⟨A_b, c_b, rfl⟩ := Kd.S_slice hO
    have O_b := q_ hO
    clear hO
    have Y10 := q_ hb.size
    replace HB := sb_ HB hb
    clear hb
    refine hK.out _ _ ⟨hcz_x_0, hcz_p0_0⟩ (fun hHeld => ?_)
    clear hK K
    refine norm_ (a' := ?_) ?_ ?_
    rotate_left
    · show Act.put _ (some 29) _ = _
      simp only [Act.put, List.setIfInBounds_toArray, List.set_cons_zero, List.set_cons_succ, i64_w, i32_w]
      rfl
    refine one_ (i := 3) (N := some 30) #[true, true, true, true, false] rfl rfl (by kernel_rfl) (by decide) (fun K hK => ?_)
    refine goes_ Try.func16 (by kernel_rfl) rfl #[.agg #[.slice A_x X.length c_x], .agg #[.slice A_b X.length c_b]] (by rfl) rfl rfl (by (try simp only [List.map_toArray, List.map_cons, List.map_nil]); first | done | rfl | (simp only [List.length_drop, List.length_take]; rfl)) ?_
    with_reducible refine (laws_eqRx.calls _ _ _ _ _ _ _ _ _ (C_of_S O_x.o) (L_of_S O_x.o) (C_of_S O_b.o) (L_of_S O_b.o) E5.o).mono ?_
    rintro e w11 ⟨rfl, hb⟩
    refine ⟨_, rfl, ?_⟩
    replace O_a := Sb_ O_a hb
    replace O_w0 := Rb_ O_w0 hb
    replace O_x := Sb_ O_x hb
    replace O_g := Rb_ O_g hb
    replace O_b := Sb_ O_b hb
    replace BK_p0 := lb_ BK_p0 hb
    replace hcz_p0_0 := (d1_ BK_p0).1
    replace BK_x := lb_ BK_x hb
    replace hcz_x_0 := (d1_ BK_x).1
    have Y11 := q_ hb.size
    replace HB := sb_ HB hb
    clear hb
    refine hK.out _ _ ⟨hcz_x_0, hcz_p0_0⟩ (fun hHeld => ?_)
    clear hK K
    refine norm_ (a' := ?_) ?_ ?_
    rotate_left
    · show Act.put _ (some 30) _ = _
      simp only [Act.put, List.setIfInBounds_toArray, List.set_cons_zero, List.set_cons_succ, i64_w, i32_w]
      rfl
    refine pure_ (i := 4) (N := some 31) (v := ?_) (a' := ?_) #[true, true, true, true, true] rfl rfl (by kernel_rfl) (fun _ _ _ h => h) (Or.inl ⟨by rfl, ?_⟩) ?_ ?_
    rotate_left
    · intro w'
      go_simp
      with_reducible rfl
    rotate_left
    · simp only [Act.put, List.setIfInBounds_toArray, List.set_cons_zero, List.set_cons_succ, i64_w, i32_w]
      rfl
    refine done_ (by kernel_rfl) ?_
    go_wp2_with (go_at_call 22; clear T8; refine (markRx_walk _ _ _ _ X 1 M F2.o (by omega) F1.o w _ HB.o (Kd.S_R O_x.o)).mono ?_; rintro e w12 ⟨rfl, hB2, hK⟩; have z0 := GB_p0.o; have z1 := LB_p0.o; have z2 := Y1.o; have z3 := Y2.o; have z4 := Z_a.o; have z5 := Y3.o; have z6 := Z_w0.o; have z7 := Y4.o; have z8 := Z_x.o; have z9 := Y5.o; have z10 := GB_x.o; have z11 := LB_x.o; have z12 := Y6.o; have z13 := Z_g.o; have z14 := Y7.o; have z15 := Y8.o; have z16 := Y9.o; have z17 := Z_b.o; have z18 := Y10.o; have z19 := Y11.o; replace O_a := q_ (S_beside O_a.o (by omega) hK (by omega)); replace O_w0 := q_ (R_beside O_w0.o (by omega) hK (by omega)); replace O_g := q_ (R_beside O_g.o (by omega) hK (by omega)); replace O_b := q_ (S_beside O_b.o (by omega) hK (by omega)); replace BK_p0 := q_ ((hK.2 gb_p0 (by omega) (fun h2 => by have y0 := h2.1; have y1 := h2.2; omega)).trans BK_p0.o); replace hcz_p0_0 := (d1_ BK_p0).1; replace BK_x := q_ ((hK.2 gb_x (by omega) (fun h2 => by have y0 := h2.1; have y1 := h2.2; omega)).trans BK_x.o); replace hcz_x_0 := (d1_ BK_x).1; clear z0 z1 z2 z3 z4 z5 z6 z7 z8 z9 z10 z11 z12 z13 z14 z15 z16 z17 z18 z19; clear O_x; have Y12 := q_ hK.1; replace HB := q_ hB2; clear hB2 hK)
    go_wp2_with (go_at_call 21; clear T9; refine (laws_eqSpanS.calls _ _ _ _ _ _ _ _ _ (C_of_R O_g.o) (L_of_R O_g.o) (C_of_R O_w0.o) (L_of_R O_w0.o) E4.o).mono ?_; rintro e w13 ⟨rfl, hb⟩; replace O_a := Sb_ O_a hb; replace O_w0 := Rb_ O_w0 hb; replace O_g := Rb_ O_g hb; replace O_b := Sb_ O_b hb; replace BK_p0 := lb_ BK_p0 hb; replace hcz_p0_0 := (d1_ BK_p0).1; replace BK_x := lb_ BK_x hb; replace hcz_x_0 := (d1_ BK_x).1; have Y13 := q_ hb.size; replace HB := sb_ HB hb; clear hb)
    go_wp2_with (go_at_call 23; clear T10; refine (laws_markSpanS.calls _ _ _ _ _ _ _ w _ HB.o O_g.o E6.o).mono ?_; rintro e w14 ⟨rfl, hO, hB2, hK⟩; have z0 := GB_p0.o; have z1 := LB_p0.o; have z2 := Y1.o; have z3 := Y2.o; have z4 := Z_a.o; have z5 := Y3.o; have z6 := Z_w0.o; have z7 := Y4.o; have z8 := Z_x.o; have z9 := Y5.o; have z10 := GB_x.o; have z11 := LB_x.o; have z12 := Y6.o; have z13 := Z_g.o; have z14 := Y7.o; have z15 := Y8.o; have z16 := Y9.o; have z17 := Z_b.o; have z18 := Y10.o; have z19 := Y11.o; have z20 := Y12.o; have z21 := Y13.o; replace O_a := q_ (S_beside O_a.o (by omega) hK (by omega)); replace O_w0 := q_ (R_beside O_w0.o (by omega) hK (by omega)); replace O_b := q_ (S_beside O_b.o (by omega) hK (by omega)); replace BK_p0 := q_ ((hK.2 gb_p0 (by omega) (fun h2 => by have y0 := h2.1; have y1 := h2.2; omega)).trans BK_p0.o); replace hcz_p0_0 := (d1_ BK_p0).1; replace BK_x := q_ ((hK.2 gb_x (by omega) (fun h2 => by have y0 := h2.1; have y1 := h2.2; omega)).trans BK_x.o); replace hcz_x_0 := (d1_ BK_x).1; clear z0 z1 z2 z3 z4 z5 z6 z7 z8 z9 z10 z11 z12 z13 z14 z15 z16 z17 z18 z19 z20 z21; replace O_g := q_ (R_marked O_g.o hO rfl); have Y14 := q_ hK.1; replace HB := q_ hB2; clear hO hB2 hK)
    go_wp2_with (go_at_call 24; clear T11; refine (len_R O_g.o (laws_heldSpanS.calls _ _ _ _ _ _ _ (C_of_R O_g.o) (L_of_R O_g.o) E7.o)).mono ?_; rintro e w15 ⟨rfl, hd⟩; have hb := below_drawn hd; replace O_a := Sb_ O_a hb; replace O_w0 := Rb_ O_w0 hb; replace O_g := Rb_ O_g hb; replace O_b := Sb_ O_b hb; replace BK_p0 := lb_ BK_p0 hb; replace hcz_p0_0 := (d1_ BK_p0).1; replace BK_x := lb_ BK_x hb; replace hcz_x_0 := (d1_ BK_x).1; have Y15 := q_ hb.size; replace HB := sb_ HB hb; clear hb)
    go_wp2_with (go_at_call 14; clear T12; refine (laws_toRx.calls _ _ _ _ _ _ (Kd.C_below HR_l0_0.o HB.o) (HC_l0_0.o) E1.o).mono ?_; rintro e w16 ⟨v_c, rfl, hO, hb⟩; replace O_a := Sb_ O_a hb; replace O_w0 := Rb_ O_w0 hb; replace O_g := Rb_ O_g hb; replace O_b := Sb_ O_b hb; replace BK_p0 := lb_ BK_p0 hb; replace hcz_p0_0 := (d1_ BK_p0).1; replace BK_x := lb_ BK_x hb; replace hcz_x_0 := (d1_ BK_x).1; obtain ⟨lo_c, hi_c, hz, hO⟩ := S_born hO HB.o; have Z_c := q_ hz; clear hz; obtain ⟨A_c, c_c, rfl⟩ := Kd.S_slice hO; have O_c := q_ hO; clear hO; have Y16 := q_ hb.size; replace HB := sb_ HB hb; clear hb)
    go_wp2_with (go_at_call 20; clear T13; refine (impl_FirstOf.calls _ _ _ _ _ _ (C_of_S O_c.o) (L_of_S O_c.o) E3.o).mono ?_; rintro e w17 ⟨v_h, rfl, hO, hb⟩; replace O_a := Sb_ O_a hb; replace O_w0 := Rb_ O_w0 hb; replace O_g := Rb_ O_g hb; replace O_b := Sb_ O_b hb; replace O_c := Sb_ O_c hb; replace BK_p0 := lb_ BK_p0 hb; replace hcz_p0_0 := (d1_ BK_p0).1; replace BK_x := lb_ BK_x hb; replace hcz_x_0 := (d1_ BK_x).1; obtain ⟨lo_h, hi_h, hz, hO⟩ := R_born hO HB.o; have Z_h := q_ hz; clear hz; obtain ⟨A_h, c_h, rfl⟩ := Kd.R_slice hO; have O_h := q_ hO; clear hO; have Y17 := q_ hb.size; replace HB := sb_ HB hb; clear hb)
    go_wp2_with (go_at_call 21; clear T14; refine (laws_eqSpanS.calls _ _ _ _ _ _ _ _ _ (C_of_R O_h.o) (L_of_R O_h.o) (C_of_R O_w0.o) (L_of_R O_w0.o) E4.o).mono ?_; rintro e w18 ⟨rfl, hb⟩; replace O_a := Sb_ O_a hb; replace O_w0 := Rb_ O_w0 hb; replace O_g := Rb_ O_g hb; replace O_b := Sb_ O_b hb; replace O_c := Sb_ O_c hb; replace O_h := Rb_ O_h hb; replace BK_p0 := lb_ BK_p0 hb; replace hcz_p0_0 := (d1_ BK_p0).1; replace BK_x := lb_ BK_x hb; replace hcz_x_0 := (d1_ BK_x).1; have Y18 := q_ hb.size; replace HB := sb_ HB hb; clear hb)
    go_wp2_with (go_at_call 24; clear T15; refine (len_R O_g.o (laws_heldSpanS.calls _ _ _ _ _ _ _ (C_of_R O_g.o) (L_of_R O_g.o) E7.o)).mono ?_; rintro e w19 ⟨rfl, hd⟩; have hb := below_drawn hd; replace O_a := Sb_ O_a hb; replace O_w0 := Rb_ O_w0 hb; replace O_g := Rb_ O_g hb; replace O_b := Sb_ O_b hb; replace O_c := Sb_ O_c hb; replace O_h := Rb_ O_h hb; replace BK_p0 := lb_ BK_p0 hb; replace hcz_p0_0 := (d1_ BK_p0).1; replace BK_x := lb_ BK_x hb; replace hcz_x_0 := (d1_ BK_x).1; have Y19 := q_ hb.size; replace HB := sb_ HB hb; clear hb)
    go_ret
    exact ⟨rfl, HB.o⟩
  · obtain ⟨hm0, hg⟩ := hok
    have hm := Nat.le_trans hm0 maxLen_le
    obtain ⟨_, g0⟩ := ev_get (laws_szRx_ev l0_0 1048576 (by omega) (by omega) hm hg)
    rw [if_pos (by omega)] at g0
    have E0 := q_ g0
    clear g0
    have T1 : J0 True := ⟨trivial⟩
    have T2 : J0 True := ⟨trivial⟩
    go_enter Try.func5, Try.ntmps5
    go_wp2_with ((with_reducible refine gate_dst (N := 1) rfl ?_); clear T1; refine box_event ?hg (N := 1) ?hd (cs := #[.slice A0_0 l0_0.length c0_0]) (t := 24) ?hr ?_; (case hd => rfl); (case hg => rfl); (case hr => first | (go_simp; done) | (go_simp; rfl)); intro gb_p0 hg w1 hbox hb; have BK_p0 := q_ hbox; have GB_p0 := q_ hg; have LB_p0 := q_ (blk_lt hbox); have Y1 := q_ hb.size; replace HB := sb_ HB hb; have hcz_p0_0 : w1.cell? ⟨gb_p0, 0, none⟩ = some (.slice A0_0 l0_0.length c0_0) := (blk_cell BK_p0.o 0).trans rfl; clear hb hg hbox)
    go_wp2_with (go_at_call 12; clear T2; refine (laws_szRx.calls _ _ _ _ _ _ _ (Kd.C_below HR_l0_0.o HB.o) (HC_l0_0.o) E0.o).mono ?_; rintro e w2 ⟨rfl, hb⟩; replace BK_p0 := lb_ BK_p0 hb; replace hcz_p0_0 := (d1_ BK_p0).1; have Y2 := q_ hb.size; replace HB := sb_ HB hb; clear hb)
    go_ret
    exact ⟨rfl, HB.o⟩
end Go.Proofs.Ytijmhelacmjggaa.P
namespace Go.Proofs.YtijmhelacmjggaaOpen
open Go.RowKit Go.ChangeShapes Go.WideShapes Go.Proofs.YtijmhelacmjggaaW.PrintWords
set_option linter.unusedVariables false
set_option linter.unusedSimpArgs false
structure Opens {α : Type} (P : Program) (t : TypeId) (k : Kd α) (G : α → Prop) : Prop where
  sz : P.cellsOf t = k.sz
  op : ∀ {H : Type} (enc : TypeId × Value → H) (w : World) (base : Nat) (spare : Nat → Bool) (held : Bool) (fuel : Nat) (cs : List Value) (x : DataW H × List MemPlace), DataW.trod enc P w base spare held fuel t cs = some x → ∃ v, k.K w v cs ∧ G v
variable {P : Program} {t e : TypeId}
theorem opens_int {k : IntKind} (ht : P.underlying t = some (.int k)) (hc : P.cellsOf t = 1) : Opens P t (Kd.int k) (fun n => (Lit.int k n).wf = true) where
  sz := hc
  op := fun enc w base spare held fuel cs x h => by
    obtain ⟨n, rfl, _, hw⟩ := DataW.trod_int ht h
    exact ⟨n, rfl, hw⟩
theorem opens_bool (ht : P.underlying t = some .bool) (hc : P.cellsOf t = 1) : Opens P t Kd.bool (fun _ => True) where
  sz := hc
  op := fun enc w base spare held fuel cs x h => by
    obtain ⟨b, rfl, _⟩ := DataW.trod_bool ht h
    exact ⟨b, rfl, trivial⟩
theorem opens_string (ht : P.underlying t = some .string) (hc : P.cellsOf t = 1) : Opens P t Kd.string (fun s => s.size ≤ maxLen) where
  sz := hc
  op := fun enc w base spare held fuel cs x h => by
    obtain ⟨s, rfl, _, hs⟩ := DataW.trod_string ht h
    exact ⟨s, rfl, hs⟩
theorem exists_list {α : Type} {p : Nat → α → Prop} : ∀ n, (∀ i, i < n → ∃ v, p i v) → ∃ xs : List α, xs.length = n ∧ ∀ i v, xs[i]? = some v → p i v
  | 0, _ => ⟨[], rfl, fun i v h => by simp at h⟩
  | n + 1, h => by
    obtain ⟨xs, hl, hx⟩ := exists_list n (fun i hi => h i (by omega))
    obtain ⟨v, hv⟩ := h n (by omega)
    refine ⟨xs ++ [v], by simp [hl], fun i u hu => ?_⟩
    by_cases hi : i < n
    · rw [List.getElem?_append_left (by omega)] at hu
      exact hx i u hu
    · rw [List.getElem?_append_right (by omega)] at hu
      have : i - xs.length = 0 := by
        have := (List.getElem?_eq_some_iff.1 hu).1
        simp at this
        omega
      rw [this] at hu
      have hi' : i = n := by omega
      subst hi'
      simp at hu
      subst hu
      exact hv
theorem opens_slice {α : Type} {k : Kd α} {G : α → Prop} (ht : P.underlying t = some (.slice e)) (hc : P.cellsOf t = 1) (h : Opens P e k G) : Opens P t (Kd.slice e k) (fun xs => xs.length ≤ maxLen ∧ ∀ x ∈ xs, G x) where
  sz := hc
  op := fun enc w base spare held fuel cs x hx => by
    rcases DataW.trod_slice ht hx with ⟨rfl, rfl⟩ | ⟨a, len, cap, elems, rest, n, _, rfl, _, _, hl, hm, hlen, hel, _, _⟩
    · exact ⟨[], ⟨none, 0, rfl, Nat.le_refl _, Kd.C_nil k w⟩, by simp, fun x hx => absurd hx List.not_mem_nil⟩
    · have each : ∀ i, i < len → ∃ v, G v ∧ ∃ c, c.length = k.sz ∧ k.K w v c ∧ ∀ j u, c[j]? = some u → w.cell? (a.add (i * k.sz + j)) = some u := by
        intro i hi
        have h1 := hel i hi
        rw [List.getElem?_eq_getElem (by omega), Option.bind_eq_some_iff, h.sz] at h1
        obtain ⟨c, hc1, hc2⟩ := h1
        obtain ⟨v, hv, hg⟩ := h.op enc w base spare held n c _ hc2
        obtain ⟨_, hcl, hcell⟩ := World.cells?_some hc1
        refine ⟨v, hg, c, hcl, hv, fun j u hu => ?_⟩
        have hj : j < k.sz := by
          have := (List.getElem?_eq_some_iff.1 hu).1
          omega
        rw [← Addr.add_add, hcell j hj]
        exact hu
      obtain ⟨xs, hxl, hx⟩ := exists_list len each
      have hmx : (maxLen : Nat) ≤ 9223372036854775807 := by unfold maxLen; omega
      refine ⟨xs, ⟨some a, cap, by rw [hxl], by omega, ?_⟩, by omega, fun x hx' => ?_⟩
      · refine ⟨rfl, by omega, fun _ => ⟨a, rfl, fun j p hp => ?_⟩⟩
        obtain ⟨_, c, h1, h2, h3⟩ := hx j p hp
        exact ⟨c, h1, h2, h3⟩
      · obtain ⟨i, hi⟩ := List.mem_iff_getElem?.1 hx'
        exact (hx i x hi).1
structure Fields {α : Type} (P : Program) (fs : List Field) (off : Nat) (k : Kd α) (G : α → Prop) : Prop where
  from_ : ∀ f ∈ fs, off ≤ f.offset
  op : ∀ {H : Type} (enc : TypeId × Value → H) (w : World) (base : Nat) (spare : Nat → Bool) (held : Bool) (n : Nat) (cs : List Value), cs.length = k.sz → (∀ f ∈ fs, ∃ y, DataW.trod enc P w base spare held n f.type ((cs.drop (f.offset - off)).take (P.cellsOf f.type)) = some y) → ∃ v, k.K w v cs ∧ G v
theorem fields_one {α : Type} {k : Kd α} {G : α → Prop} {f : Field} (h : Opens P f.type k G) : Fields P [f] f.offset k G where
  from_ := fun g hg => by rw [List.mem_singleton.1 hg]; exact Nat.le_refl _
  op := fun enc w base spare held n cs hl hf => by
    obtain ⟨y, hy⟩ := hf f (by simp)
    rw [Nat.sub_self, List.drop_zero, h.sz, ← hl, List.take_length] at hy
    exact h.op enc w base spare held n cs y hy
theorem fields_cons {α β : Type} {k : Kd α} {k' : Kd β} {G : α → Prop} {G' : β → Prop} {f : Field} {fs : List Field} (h : Opens P f.type k G) (hs : Fields P fs (f.offset + k.sz) k' G') : Fields P (f :: fs) f.offset (Kd.pair k k') (fun x => G x.1 ∧ G' x.2) where
  from_ := fun g hg => by
    rcases List.mem_cons.1 hg with rfl | hg
    · exact Nat.le_refl _
    · have := hs.from_ g hg
      omega
  op := fun enc w base spare held n cs hl hf => by
    have hl' : cs.length = k.sz + k'.sz := hl
    obtain ⟨y, hy⟩ := hf f (by simp)
    rw [Nat.sub_self, List.drop_zero, h.sz] at hy
    obtain ⟨v, hv, hg⟩ := h.op enc w base spare held n _ y hy
    obtain ⟨u, hu, hg'⟩ := hs.op enc w base spare held n (cs.drop k.sz) (by rw [List.length_drop]; omega) (fun g hg => by
      obtain ⟨y, hy⟩ := hf g (by simp [hg])
      refine ⟨y, ?_⟩
      have := hs.from_ g hg
      rw [List.drop_drop, show k.sz + (g.offset - (f.offset + k.sz)) = g.offset - f.offset by omega]
      exact hy)
    exact ⟨(v, u), ⟨cs.take k.sz, cs.drop k.sz, (List.take_append_drop _ _).symm, hv, hu⟩, hg, hg'⟩
theorem opens_struct {α : Type} {k : Kd α} {G : α → Prop} {fs : Array Field} (ht : P.underlying t = some (.struct fs)) (hc : P.cellsOf t = k.sz) (h : Fields P fs.toList 0 k G) : Opens P t k G where
  sz := hc
  op := fun enc w base spare held fuel cs x hx => by
    obtain ⟨xs, n, _, _, hl, hlen, hf⟩ := DataW.trod_struct ht hx
    refine h.op enc w base spare held n cs (hl.trans hc) (fun f hf' => ?_)
    obtain ⟨i, hi⟩ := List.mem_iff_getElem?.1 hf'
    rw [Array.getElem?_toList] at hi
    have h1 := hf i f hi
    have : i < fs.size := by
      have := (Array.getElem?_eq_some_iff.1 hi).1
      exact this
    rw [List.getElem?_eq_getElem (by omega)] at h1
    rw [Nat.sub_zero]
    exact ⟨_, h1⟩
theorem opens_iso {α β : Type} {k : Kd α} {G : α → Prop} (f : β → α) (g : α → β) (hfg : ∀ x, f (g x) = x) (h : Opens P t k G) : Opens P t (Kd.iso k f) (fun y => G (f y)) where
  sz := h.sz
  op := fun enc w base spare held fuel cs x hx => by
    obtain ⟨v, hv, hg⟩ := h.op enc w base spare held fuel cs x hx
    exact ⟨g v, by show k.K w (f (g v)) cs; rw [hfg]; exact hv, by rw [hfg]; exact hg⟩
theorem opens_imp {α : Type} {k : Kd α} {G G' : α → Prop} (h : Opens P t k G) (hg : ∀ x, G x → G' x) : Opens P t k G' where
  sz := h.sz
  op := fun enc w base spare held fuel cs x hx => by
    obtain ⟨v, hv, hh⟩ := h.op enc w base spare held fuel cs x hx
    exact ⟨v, hv, hg v hh⟩
end Go.Proofs.YtijmhelacmjggaaOpen
set_option linter.unusedVariables false
namespace Go.Proofs.Ytijmhelacmjggaa.fnExactFirstOf.Pure
open Go.RowKit Go.Proofs.YtijmhelacmjggaaW.PrintWords Go.Proofs.YtijmhelacmjggaaW.PrintLast Go.Proofs.Ytijmhelacmjggaa.P Go.Proofs.YtijmhelacmjggaaEv
theorem pure_FnExactFirstOf : ∀ (l0_0 : List S152), (l0_0.length ≤ maxLen ∧ ∀ y ∈ l0_0, g152 y) → ∃ k, laws_FnExactFirstOf.f k l0_0 = some true := by
  intro l0_0 h0
  exact ⟨0, if_pos (h0)⟩
end Go.Proofs.Ytijmhelacmjggaa.fnExactFirstOf.Pure
namespace Go.Proofs.Ytijmhelacmjggaa.fnExactFirstOf
open Go.ChangeShapes Go.WideShapes Go.ChangeAt Go.RowKit Go.Proofs.YtijmhelacmjggaaW.PrintWords Go.Proofs.YtijmhelacmjggaaOpen Go.Proofs.Ytijmhelacmjggaa.P
open Go.ChangeMaps (open_string shut_string)
set_option linter.unusedVariables false
set_option linter.unusedSimpArgs false
theorem own : ownKnob Try.prog.godebug = none := by kernel_rfl
theorem laidOut : laidOutB Try.prog = true := by kernel_rfl
theorem o210 : Opens Try.prog 210 k210 g210 := opens_imp (opens_iso (fun x : S210 => (x.f0, x.f1)) (fun p => ⟨p.1, p.2⟩) (fun _ => rfl) (opens_struct Try.underlying210 (by kernel_rfl) (fields_cons (opens_int Try.underlying2 (by kernel_rfl)) (fields_one (opens_int Try.underlying2 (by kernel_rfl)))))) (fun _ h => h)
theorem o152 : Opens Try.prog 152 k152 g152 := opens_imp (opens_iso (fun x : S152 => (x.f0, x.f1, x.f2, x.f3, x.f4)) (fun p => ⟨p.1, p.2.1, p.2.2.1, p.2.2.2.1, p.2.2.2.2⟩) (fun _ => rfl) (opens_struct Try.underlying152 (by kernel_rfl) (fields_cons (opens_int Try.underlying2 (by kernel_rfl)) (fields_cons (opens_slice Try.underlying150 (by kernel_rfl) o210) (fields_cons (opens_slice Try.underlying56 (by kernel_rfl) (opens_int Try.underlying2 (by kernel_rfl))) (fields_cons (opens_int Try.underlying2 (by kernel_rfl)) (fields_one (opens_int Try.underlying2 (by kernel_rfl))))))))) (fun _ h => h)
theorem lifted (os : Os) (started : os.Started) (H : Type) (enc : TypeId × Value → H) :
    ReturnsInHanded {} Try.checked os 5 .any (Rows.fnExactFirstOfSpec.pre6 enc Try.prog Try.f5 Rows.fnExactFirstOfRow.domain false) (Rows.fnExactFirstOfSpec.post enc Try.prog Try.f5 false true false false) := by
  refine returnsInHanded_of_change_sized (C := Try.checked) own started (by kernel_rfl) Try.func5
    (ChangeSpec.witness6 (enc := enc) (C := Try.checked) false ⟨#[], #[.agg #[.slice none 0 0]], []⟩ 8 (by kernel_rfl) (by kernel_rfl) (by kernel_rfl) (by kernel_rfl)) ?_
  intro W base args ds gs before hval0 hW hcnd hsz0 _
  have hsz : (DataW.weightsEach Try.prog (Try.f5.params.toList ++ Rows.fnExactFirstOfSpec.plain.varTypes Try.prog) (ds ++ gs)).all (· ≤ reachBytes) = true := hsz0
  have hval : ∀ (j : Nat) t v, Try.f5.params[j]? = some t → args[j]? = some v → Value.okWide Try.prog W .any base t v := hval0
  have hW' := hW
  obtain ⟨p, q, hA0, hV, rfl, hfz, hnd⟩ := hW
  have hA : DataW.TrodAll enc Try.prog W 0 (fun _ => true) true Try.f5.params.toList args.toList ds p := hA0
  rw [Try.params5] at hA hval hsz
  obtain ⟨v0, vs0, d0, ds0, p0, q0, hargs, rfl, rfl, h0, r0⟩ := trodAll_cons hA
  obtain ⟨rfl, rfl, rfl⟩ := trodAll_nil r0
  obtain rfl : args = #[v0] := by cases args; simp_all
  obtain ⟨rfl, rfl⟩ := trodVars_none hV
  have k0' := h0
  have lt0 : ∀ x ∈ p0, x.block < W.heap.size := by obtain ⟨m, hm⟩ := k0'; exact DataW.trod_lt m _ _ _ hm
  obtain ⟨cs0, rfl, hn0⟩ := okWide_struct Try.underlying24 (hval 0 24 v0 rfl rfl)
  obtain ⟨fuel0, hf0⟩ := h0
  have hf0' : DataW.trod enc Try.prog W 0 (fun _ => true) true fuel0 24 cs0.toList = some (d0, p0) := hf0
  obtain ⟨x0, hK0, hG0⟩ := (opens_struct Try.underlying24 (by kernel_rfl) (fields_one (opens_slice Try.underlying22 (by kernel_rfl) o152))).op enc W 0 (fun _ => true) true fuel0 _ _ hf0'
  have hG0' := hG0
  obtain ⟨A0_0, c0_0, hs0_0, hl0_0, hC0_0⟩ := hK0
  obtain rfl : cs0 = #[.slice A0_0 x0.length c0_0] := by
    apply Array.ext'
    simp only [hs0_0, List.cons_append, List.nil_append]
  clear hA0 hval0 hsz0 hsz
  obtain ⟨k, hk⟩ := Pure.pure_FnExactFirstOf _ hG0'
  refine (laws_FnExactFirstOf.calls k A0_0 c0_0 _ true W hC0_0 hl0_0 hk).mono fun e W' ⟨he, bel0⟩ => ?_
  have bel : Below W.heap.size W W' := bel0
  subst he
  exact ⟨_, rfl, _, _, _, [], _, [], hW', trodAll_mk1 (shut_bool Try.underlying4 _), (trodAll_cons_mk (Below.trod laidOut (by kernel_rfl) (of_decide_eq_true (by kernel_rfl)) k0' bel lt0) trodAll_mk0), rfl, bel.frame _, fun h => by cases h⟩
theorem over : Rows.fnExactFirstOfRow.holds Try.pinned (OpenSpec.ofChange Rows.fnExactFirstOfSpec) :=
  OpenClaim.holds_of_wide 5 Try.f5 rfl rfl rfl rfl rfl rfl rfl ⟨rfl, rfl, rfl, rfl, rfl⟩ rfl rfl rfl rfl rfl (by kernel_rfl) Try.func5 (by kernel_rfl)
    (of_decide_eq_true (by kernel_rfl)) (by unfold Func.isWrapper; first | (rw [if_pos (by decide +kernel)]; kernel_rfl) | (rw [if_neg (by decide +kernel)]; exact ⟨rfl, rfl⟩))
    (fun os started H enc _ => lifted os started H enc)
theorem proved : Rows.FnExactFirstOfSaid := over
#print axioms proved
end Go.Proofs.Ytijmhelacmjggaa.fnExactFirstOf
namespace Go.Proofs.Ytijmhelacmjggaa
theorem fnExactFirstOf_holds : Rows.FnExactFirstOfSaid := fnExactFirstOf.proved
end Go.Proofs.Ytijmhelacmjggaa
