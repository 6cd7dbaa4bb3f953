/- The law FnExactLinesOf holds for every call: part 6 of 6 of the proof (the row). Conditions: none beyond what the given row says. -/
import Derived.Test.YtimdoghlnegpgaaMFnExactLinesOf0
import Derived.Test.YtimdoghlnegpgaaMFnExactLinesOf1
import Derived.Test.YtimdoghlnegpgaaMFnExactLinesOf4
import Derived.ChangeSlices
import Derived.ChangeArms
import Derived.SizedLaws
import Derived.Test.YtimdoghlnegpgaaRows
import Derived.WalkKit
import Derived.ProofKit
import Derived.OpenShut
import Derived.ShutString
import Derived.ChangeOld
import Derived.Below
/- The law FnExactLinesOf, walked as a whole along the way that it goes, for arguments as its row says. -/
set_option linter.unusedVariables false
set_option linter.unusedSimpArgs false
namespace Go.Proofs.Ytimdoghlnegpgaa.P
open Go.RowKit Go.Proofs.YtimdoghlnegpgaaW.PrintWords Go.Proofs.YtimdoghlnegpgaaW.PrintLast Go.Proofs.YtimdoghlnegpgaaW.PrintMore Go.Proofs.YtimdoghlnegpgaaEv
def laws_FnExactLinesOf.dom_ (l0 : List S89) : Prop := (l0.length ≤ maxLen)
open Classical in
noncomputable def laws_FnExactLinesOf.f (k : Nat) (l0 : List S89) : Option Bool := if laws_FnExactLinesOf.dom_ l0 then some true else none
set_option maxHeartbeats 8000000 in
set_option maxRecDepth 100000 in
theorem laws_FnExactLinesOf.calls (k : Nat) (A0 : Option Addr) (c0 : Nat) (l0 : List S89) (r : Bool) (w : World) (hr0 : Kd.C k89 w A0 l0.length l0) (hc0 : l0.length ≤ c0) (h : laws_FnExactLinesOf.f k l0 = some r) :
  Calls Try.prog 7 #[.slice A0 l0.length c0] w fun e w' => e = .returned (.bool r) ∧ Below w.heap.size w w' := by
  have hok : laws_FnExactLinesOf.dom_ l0 := by
    unfold laws_FnExactLinesOf.f at h
    split at h
    · assumption
    · simp at h
  have hr : r = true := by
    unfold laws_FnExactLinesOf.f at h
    rw [if_pos hok] at h
    simpa using h.symm
  subst hr
  clear h
  have HR_l0 := Aside0.mk hr0
  have HC_l0 := Aside0.mk hc0
  clear hr0 hc0
  have HB := Aside0.mk (Below.refl w.heap.size w)
  by_cases hsmall : l0.length ≤ 1048576
  · have hm := Nat.le_trans hok maxLen_le
    have hl' : (l0.map cItem).length ≤ 1048576 := by simpa using hsmall
    have hf := linesB_few (l0.map cItem)
    have hmem : ∀ x ∈ (linesB (l0.map cItem)).1, x.length ≤ 9223372036854775807 := fun x hx => by have := cntSS_mem hx; omega
    have E0 := Aside0.mk (laws_szItemS_eq l0 1048576 hm (by omega) (by omega))
    rw [if_neg (by omega)] at E0
    obtain ⟨_, h1⟩ := ev_get (laws_toItemS_ev l0 hsmall)
    obtain ⟨_, h2⟩ := ev_get (spec_LinesOf_ev (l0.map cItem))
    obtain ⟨_, h3⟩ := ev_get (impl_LinesOf_ev (l0.map cItem) (by omega))
    obtain ⟨_, h4⟩ := ev_get (laws_eqItemSS_ev ((linesB (l0.map cItem)).1) (by omega) hmem)
    obtain ⟨_, h5⟩ := ev_get (laws_eqItemS_ev (l0.map cItem) (by omega))
    obtain ⟨_, h6⟩ := ev_get (laws_markItemS_ev (l0.map cItem) 1 (by omega) (by omega))
    obtain ⟨_, h7⟩ := ev_get (laws_heldItemSS_ev ((linesB (l0.map cItem)).1) 1 (by omega) (by omega) (by omega))
    have E1 := Aside0.mk h1
    have E2 := Aside0.mk h2
    have E3 := Aside0.mk h3
    have E4 := Aside0.mk h4
    have E5 := Aside0.mk h5
    have E6 := Aside0.mk h6
    have E7 := Aside0.mk h7
    clear h1 h2 h3 h4 h5 h6 h7
    have F1 := Aside0.mk (by omega : (1 : Int) + cntSS ((linesB (l0.map cItem)).1) ≤ 9000000000000000000)
    have F2 := Aside0.mk (by omega : (((linesB (l0.map cItem)).1).length : Int) ≤ 9000000000000000000)
    have n1 : decide ((1048576 : Int) - (l0.length : Int) < 0) = false := decide_eq_false (by omega)
    have n2 : decide ((1 : Int) + 3 * ((l0.map cItem).length : Int) < 0) = false := decide_eq_false (by omega)
    have n3 : decide ((1 : Int) + (cntSS ((linesB (l0.map cItem)).1) : Int) < 0) = false := decide_eq_false (by omega)
    clear hmem hf hl' hm hok
    obtain ⟨W, b, hW⟩ : ∃ W b, linesB (l0.map cItem) = (W, b) := ⟨_, _, rfl⟩
    rw [hW] at E2 E3
    simp only [hW] at E4 E7 F1 F2 n3
    clear hW
    have n4 : (b != b) = false := bne_self_eq_false b
    generalize l0.map cItem = X at *
    have T1 : Aside0 True := ⟨trivial⟩
    have T2 : Aside0 True := ⟨trivial⟩
    have T3 : Aside0 True := ⟨trivial⟩
    have T4 : Aside0 True := ⟨trivial⟩
    have T5 : Aside0 True := ⟨trivial⟩
    have T6 : Aside0 True := ⟨trivial⟩
    have T7 : Aside0 True := ⟨trivial⟩
    have T8 : Aside0 True := ⟨trivial⟩
    have T9 : Aside0 True := ⟨trivial⟩
    have T10 : Aside0 True := ⟨trivial⟩
    have T11 : Aside0 True := ⟨trivial⟩
    have T12 : Aside0 True := ⟨trivial⟩
    have T13 : Aside0 True := ⟨trivial⟩
    have T14 : Aside0 True := ⟨trivial⟩
    have T15 : Aside0 True := ⟨trivial⟩
    have T16 : Aside0 True := ⟨trivial⟩
    go_enter Try.func7, Try.ntmps7
    go_wp2_with (go_at_call 20; clear T1; refine (laws_szItemS.calls _ _ _ _ _ _ (Kd.C_below HR_l0.out HB.out) (HC_l0.out) E0.out).mono ?_; rintro e w1 ⟨rfl, hd⟩; have hb := below_drawn hd; have Y1 := Aside0.mk hb.size; replace HB := Aside0.mk (below_step HB.out hb); clear hb)
    go_wp2_with (go_at_call 22; clear T2; refine (laws_toItemS.calls _ _ _ _ _ _ (Kd.C_below HR_l0.out HB.out) (HC_l0.out) E1.out).mono ?_; rintro e w2 ⟨v_a, rfl, hO, hb⟩; obtain ⟨lo_a, hi_a, hz, hO⟩ := R_born hO HB.out; have Z_a := Aside0.mk hz; clear hz; obtain ⟨A_a, c_a, rfl⟩ := Kd.R_slice hO; have O_a := Aside0.mk hO; clear hO; have Y2 := Aside0.mk hb.size; replace HB := Aside0.mk (below_step HB.out hb); clear hb)
    go_wp2_with (go_at_call 37; clear T3; refine (spec_LinesOf.calls _ _ _ _ _ _ _ (C_of_R O_a.out) (L_of_R O_a.out) E2.out).mono ?_; rintro e w3 ⟨v_w0, rfl, hO, hb⟩; replace O_a := Aside0.mk (Kd.R_below O_a.out hb); obtain ⟨lo_w0, hi_w0, hz, hO⟩ := S_born hO HB.out; have Z_w0 := Aside0.mk hz; clear hz; obtain ⟨A_w0, c_w0, rfl⟩ := Kd.S_slice hO; have O_w0 := Aside0.mk hO; clear hO; have Y3 := Aside0.mk hb.size; replace HB := Aside0.mk (below_step HB.out hb); clear hb)
    go_wp2_with (go_at_call 22; clear T4; refine (laws_toItemS.calls _ _ _ _ _ _ (Kd.C_below HR_l0.out HB.out) (HC_l0.out) E1.out).mono ?_; rintro e w4 ⟨v_x, rfl, hO, hb⟩; replace O_a := Aside0.mk (Kd.R_below O_a.out hb); replace O_w0 := Aside0.mk (Kd.S_below O_w0.out hb); obtain ⟨lo_x, hi_x, hz, hO⟩ := R_born hO HB.out; have Z_x := Aside0.mk hz; clear hz; obtain ⟨A_x, c_x, rfl⟩ := Kd.R_slice hO; have O_x := Aside0.mk hO; clear hO; have Y4 := Aside0.mk hb.size; replace HB := Aside0.mk (below_step HB.out hb); clear hb)
    go_wp2_with (go_at_call 38; clear T5; refine (impl_LinesOf.calls _ _ _ _ _ _ _ (C_of_R O_x.out) (L_of_R O_x.out) E3.out).mono ?_; rintro e w5 ⟨v_g, rfl, hO, hb⟩; replace O_a := Aside0.mk (Kd.R_below O_a.out hb); replace O_w0 := Aside0.mk (Kd.S_below O_w0.out hb); replace O_x := Aside0.mk (Kd.R_below O_x.out hb); obtain ⟨lo_g, hi_g, hz, hO⟩ := S_born hO HB.out; have Z_g := Aside0.mk hz; clear hz; obtain ⟨A_g, c_g, rfl⟩ := Kd.S_slice hO; have O_g := Aside0.mk hO; clear hO; have Y5 := Aside0.mk hb.size; replace HB := Aside0.mk (below_step HB.out hb); clear hb)
    go_wp2_with (go_at_call 34; clear T6; refine (laws_eqItemSS.calls _ _ _ _ _ _ _ _ _ (C_of_S O_g.out) (L_of_S O_g.out) (C_of_S O_w0.out) (L_of_S O_w0.out) E4.out).mono ?_; rintro e w6 ⟨rfl, hb⟩; replace O_a := Aside0.mk (Kd.R_below O_a.out hb); replace O_w0 := Aside0.mk (Kd.S_below O_w0.out hb); replace O_x := Aside0.mk (Kd.R_below O_x.out hb); replace O_g := Aside0.mk (Kd.S_below O_g.out hb); have Y6 := Aside0.mk hb.size; replace HB := Aside0.mk (below_step HB.out hb); clear hb)
    go_wp2_with (go_at_call 22; clear T7; refine (laws_toItemS.calls _ _ _ _ _ _ (Kd.C_below HR_l0.out HB.out) (HC_l0.out) E1.out).mono ?_; rintro e w7 ⟨v_b, rfl, hO, hb⟩; replace O_a := Aside0.mk (Kd.R_below O_a.out hb); replace O_w0 := Aside0.mk (Kd.S_below O_w0.out hb); replace O_x := Aside0.mk (Kd.R_below O_x.out hb); replace O_g := Aside0.mk (Kd.S_below O_g.out hb); obtain ⟨lo_b, hi_b, hz, hO⟩ := R_born hO HB.out; have Z_b := Aside0.mk hz; clear hz; obtain ⟨A_b, c_b, rfl⟩ := Kd.R_slice hO; have O_b := Aside0.mk hO; clear hO; have Y7 := Aside0.mk hb.size; replace HB := Aside0.mk (below_step HB.out hb); clear hb)
    go_wp2_with (go_at_call 24; clear T8; refine (laws_eqItemS.calls _ _ _ _ _ _ _ _ _ (C_of_R O_x.out) (L_of_R O_x.out) (C_of_R O_b.out) (L_of_R O_b.out) E5.out).mono ?_; rintro e w8 ⟨rfl, hb⟩; replace O_a := Aside0.mk (Kd.R_below O_a.out hb); replace O_w0 := Aside0.mk (Kd.S_below O_w0.out hb); replace O_x := Aside0.mk (Kd.R_below O_x.out hb); replace O_g := Aside0.mk (Kd.S_below O_g.out hb); replace O_b := Aside0.mk (Kd.R_below O_b.out hb); have Y8 := Aside0.mk hb.size; replace HB := Aside0.mk (below_step HB.out hb); clear hb)
    go_wp2_with (go_at_call 25; clear T9; refine (laws_markItemS.calls _ _ _ _ _ _ _ w _ HB.out O_x.out E6.out).mono ?_; rintro e w9 ⟨rfl, hO, hB2, hK⟩; replace O_a := Aside0.mk (R_beside O_a.out (by have z0 := Y1.out; have z1 := Z_a.out; have z2 := Y2.out; have z3 := Z_w0.out; have z4 := Y3.out; have z5 := Z_x.out; have z6 := Y4.out; have z7 := Z_g.out; have z8 := Y5.out; have z9 := Y6.out; have z10 := Z_b.out; have z11 := Y7.out; have z12 := Y8.out; omega) hK (by have z0 := Y1.out; have z1 := Z_a.out; have z2 := Y2.out; have z3 := Z_w0.out; have z4 := Y3.out; have z5 := Z_x.out; have z6 := Y4.out; have z7 := Z_g.out; have z8 := Y5.out; have z9 := Y6.out; have z10 := Z_b.out; have z11 := Y7.out; have z12 := Y8.out; omega)); replace O_w0 := Aside0.mk (S_beside O_w0.out (by have z0 := Y1.out; have z1 := Z_a.out; have z2 := Y2.out; have z3 := Z_w0.out; have z4 := Y3.out; have z5 := Z_x.out; have z6 := Y4.out; have z7 := Z_g.out; have z8 := Y5.out; have z9 := Y6.out; have z10 := Z_b.out; have z11 := Y7.out; have z12 := Y8.out; omega) hK (by have z0 := Y1.out; have z1 := Z_a.out; have z2 := Y2.out; have z3 := Z_w0.out; have z4 := Y3.out; have z5 := Z_x.out; have z6 := Y4.out; have z7 := Z_g.out; have z8 := Y5.out; have z9 := Y6.out; have z10 := Z_b.out; have z11 := Y7.out; have z12 := Y8.out; omega)); replace O_g := Aside0.mk (S_beside O_g.out (by have z0 := Y1.out; have z1 := Z_a.out; have z2 := Y2.out; have z3 := Z_w0.out; have z4 := Y3.out; have z5 := Z_x.out; have z6 := Y4.out; have z7 := Z_g.out; have z8 := Y5.out; have z9 := Y6.out; have z10 := Z_b.out; have z11 := Y7.out; have z12 := Y8.out; omega) hK (by have z0 := Y1.out; have z1 := Z_a.out; have z2 := Y2.out; have z3 := Z_w0.out; have z4 := Y3.out; have z5 := Z_x.out; have z6 := Y4.out; have z7 := Z_g.out; have z8 := Y5.out; have z9 := Y6.out; have z10 := Z_b.out; have z11 := Y7.out; have z12 := Y8.out; omega)); replace O_b := Aside0.mk (R_beside O_b.out (by have z0 := Y1.out; have z1 := Z_a.out; have z2 := Y2.out; have z3 := Z_w0.out; have z4 := Y3.out; have z5 := Z_x.out; have z6 := Y4.out; have z7 := Z_g.out; have z8 := Y5.out; have z9 := Y6.out; have z10 := Z_b.out; have z11 := Y7.out; have z12 := Y8.out; omega) hK (by have z0 := Y1.out; have z1 := Z_a.out; have z2 := Y2.out; have z3 := Z_w0.out; have z4 := Y3.out; have z5 := Z_x.out; have z6 := Y4.out; have z7 := Z_g.out; have z8 := Y5.out; have z9 := Y6.out; have z10 := Z_b.out; have z11 := Y7.out; have z12 := Y8.out; omega)); replace O_x := Aside0.mk (R_marked O_x.out hO rfl); have Y9 := Aside0.mk hK.1; replace HB := Aside0.mk hB2; clear hO hB2 hK)
    go_wp2_with (go_at_call 34; clear T10; refine (laws_eqItemSS.calls _ _ _ _ _ _ _ _ _ (C_of_S O_g.out) (L_of_S O_g.out) (C_of_S O_w0.out) (L_of_S O_w0.out) E4.out).mono ?_; rintro e w10 ⟨rfl, hb⟩; replace O_a := Aside0.mk (Kd.R_below O_a.out hb); replace O_w0 := Aside0.mk (Kd.S_below O_w0.out hb); replace O_x := Aside0.mk (Kd.R_below O_x.out hb); replace O_g := Aside0.mk (Kd.S_below O_g.out hb); replace O_b := Aside0.mk (Kd.R_below O_b.out hb); have Y10 := Aside0.mk hb.size; replace HB := Aside0.mk (below_step HB.out hb); clear hb)
    go_wp2_with (go_at_call 35; clear T11; refine (markItemSS_walk _ _ W 1 (by omega) F1.out F2.out w _ HB.out O_g.out).mono ?_; rintro e w11 ⟨rfl, hO, hB2, hK⟩; replace O_a := Aside0.mk (R_beside O_a.out (by have z0 := Y1.out; have z1 := Z_a.out; have z2 := Y2.out; have z3 := Z_w0.out; have z4 := Y3.out; have z5 := Z_x.out; have z6 := Y4.out; have z7 := Z_g.out; have z8 := Y5.out; have z9 := Y6.out; have z10 := Z_b.out; have z11 := Y7.out; have z12 := Y8.out; have z13 := Y9.out; have z14 := Y10.out; omega) hK (by have z0 := Y1.out; have z1 := Z_a.out; have z2 := Y2.out; have z3 := Z_w0.out; have z4 := Y3.out; have z5 := Z_x.out; have z6 := Y4.out; have z7 := Z_g.out; have z8 := Y5.out; have z9 := Y6.out; have z10 := Z_b.out; have z11 := Y7.out; have z12 := Y8.out; have z13 := Y9.out; have z14 := Y10.out; omega)); replace O_w0 := Aside0.mk (S_beside O_w0.out (by have z0 := Y1.out; have z1 := Z_a.out; have z2 := Y2.out; have z3 := Z_w0.out; have z4 := Y3.out; have z5 := Z_x.out; have z6 := Y4.out; have z7 := Z_g.out; have z8 := Y5.out; have z9 := Y6.out; have z10 := Z_b.out; have z11 := Y7.out; have z12 := Y8.out; have z13 := Y9.out; have z14 := Y10.out; omega) hK (by have z0 := Y1.out; have z1 := Z_a.out; have z2 := Y2.out; have z3 := Z_w0.out; have z4 := Y3.out; have z5 := Z_x.out; have z6 := Y4.out; have z7 := Z_g.out; have z8 := Y5.out; have z9 := Y6.out; have z10 := Z_b.out; have z11 := Y7.out; have z12 := Y8.out; have z13 := Y9.out; have z14 := Y10.out; omega)); replace O_x := Aside0.mk (R_beside O_x.out (by have z0 := Y1.out; have z1 := Z_a.out; have z2 := Y2.out; have z3 := Z_w0.out; have z4 := Y3.out; have z5 := Z_x.out; have z6 := Y4.out; have z7 := Z_g.out; have z8 := Y5.out; have z9 := Y6.out; have z10 := Z_b.out; have z11 := Y7.out; have z12 := Y8.out; have z13 := Y9.out; have z14 := Y10.out; omega) hK (by have z0 := Y1.out; have z1 := Z_a.out; have z2 := Y2.out; have z3 := Z_w0.out; have z4 := Y3.out; have z5 := Z_x.out; have z6 := Y4.out; have z7 := Z_g.out; have z8 := Y5.out; have z9 := Y6.out; have z10 := Z_b.out; have z11 := Y7.out; have z12 := Y8.out; have z13 := Y9.out; have z14 := Y10.out; omega)); replace O_b := Aside0.mk (R_beside O_b.out (by have z0 := Y1.out; have z1 := Z_a.out; have z2 := Y2.out; have z3 := Z_w0.out; have z4 := Y3.out; have z5 := Z_x.out; have z6 := Y4.out; have z7 := Z_g.out; have z8 := Y5.out; have z9 := Y6.out; have z10 := Z_b.out; have z11 := Y7.out; have z12 := Y8.out; have z13 := Y9.out; have z14 := Y10.out; omega) hK (by have z0 := Y1.out; have z1 := Z_a.out; have z2 := Y2.out; have z3 := Z_w0.out; have z4 := Y3.out; have z5 := Z_x.out; have z6 := Y4.out; have z7 := Z_g.out; have z8 := Y5.out; have z9 := Y6.out; have z10 := Z_b.out; have z11 := Y7.out; have z12 := Y8.out; have z13 := Y9.out; have z14 := Y10.out; omega)); replace O_g := Aside0.mk hO; have Y11 := Aside0.mk hK.1; replace HB := Aside0.mk hB2; clear hO hB2 hK)
    go_wp2_with (go_at_call 36; clear T12; refine (len_S O_g.out (laws_heldItemSS.calls _ _ _ _ _ _ _ (C_of_S O_g.out) (L_of_S O_g.out) E7.out)).mono ?_; rintro e w12 ⟨rfl, hd⟩; have hb := below_drawn hd; replace O_a := Aside0.mk (Kd.R_below O_a.out hb); replace O_w0 := Aside0.mk (Kd.S_below O_w0.out hb); replace O_x := Aside0.mk (Kd.R_below O_x.out hb); replace O_g := Aside0.mk (Kd.S_below O_g.out hb); replace O_b := Aside0.mk (Kd.R_below O_b.out hb); have Y12 := Aside0.mk hb.size; replace HB := Aside0.mk (below_step HB.out hb); clear hb)
    go_wp2_with (go_at_call 22; clear T13; refine (laws_toItemS.calls _ _ _ _ _ _ (Kd.C_below HR_l0.out HB.out) (HC_l0.out) E1.out).mono ?_; rintro e w13 ⟨v_c, rfl, hO, hb⟩; replace O_a := Aside0.mk (Kd.R_below O_a.out hb); replace O_w0 := Aside0.mk (Kd.S_below O_w0.out hb); replace O_x := Aside0.mk (Kd.R_below O_x.out hb); replace O_g := Aside0.mk (Kd.S_below O_g.out hb); replace O_b := Aside0.mk (Kd.R_below O_b.out hb); obtain ⟨lo_c, hi_c, hz, hO⟩ := R_born hO HB.out; have Z_c := Aside0.mk hz; clear hz; obtain ⟨A_c, c_c, rfl⟩ := Kd.R_slice hO; have O_c := Aside0.mk hO; clear hO; have Y13 := Aside0.mk hb.size; replace HB := Aside0.mk (below_step HB.out hb); clear hb)
    go_wp2_with (go_at_call 38; clear T14; refine (impl_LinesOf.calls _ _ _ _ _ _ _ (C_of_R O_c.out) (L_of_R O_c.out) E3.out).mono ?_; rintro e w14 ⟨v_h, rfl, hO, hb⟩; replace O_a := Aside0.mk (Kd.R_below O_a.out hb); replace O_w0 := Aside0.mk (Kd.S_below O_w0.out hb); replace O_x := Aside0.mk (Kd.R_below O_x.out hb); replace O_g := Aside0.mk (Kd.S_below O_g.out hb); replace O_b := Aside0.mk (Kd.R_below O_b.out hb); replace O_c := Aside0.mk (Kd.R_below O_c.out hb); obtain ⟨lo_h, hi_h, hz, hO⟩ := S_born hO HB.out; have Z_h := Aside0.mk hz; clear hz; obtain ⟨A_h, c_h, rfl⟩ := Kd.S_slice hO; have O_h := Aside0.mk hO; clear hO; have Y14 := Aside0.mk hb.size; replace HB := Aside0.mk (below_step HB.out hb); clear hb)
    go_wp2_with (go_at_call 34; clear T15; refine (laws_eqItemSS.calls _ _ _ _ _ _ _ _ _ (C_of_S O_h.out) (L_of_S O_h.out) (C_of_S O_w0.out) (L_of_S O_w0.out) E4.out).mono ?_; rintro e w15 ⟨rfl, hb⟩; replace O_a := Aside0.mk (Kd.R_below O_a.out hb); replace O_w0 := Aside0.mk (Kd.S_below O_w0.out hb); replace O_x := Aside0.mk (Kd.R_below O_x.out hb); replace O_g := Aside0.mk (Kd.S_below O_g.out hb); replace O_b := Aside0.mk (Kd.R_below O_b.out hb); replace O_c := Aside0.mk (Kd.R_below O_c.out hb); replace O_h := Aside0.mk (Kd.S_below O_h.out hb); have Y15 := Aside0.mk hb.size; replace HB := Aside0.mk (below_step HB.out hb); clear hb)
    go_wp2_with (go_at_call 36; clear T16; refine (len_S O_g.out (laws_heldItemSS.calls _ _ _ _ _ _ _ (C_of_S O_g.out) (L_of_S O_g.out) E7.out)).mono ?_; rintro e w16 ⟨rfl, hd⟩; have hb := below_drawn hd; replace O_a := Aside0.mk (Kd.R_below O_a.out hb); replace O_w0 := Aside0.mk (Kd.S_below O_w0.out hb); replace O_x := Aside0.mk (Kd.R_below O_x.out hb); replace O_g := Aside0.mk (Kd.S_below O_g.out hb); replace O_b := Aside0.mk (Kd.R_below O_b.out hb); replace O_c := Aside0.mk (Kd.R_below O_c.out hb); replace O_h := Aside0.mk (Kd.S_below O_h.out hb); have Y16 := Aside0.mk hb.size; replace HB := Aside0.mk (below_step HB.out hb); clear hb)
    go_ret
    exact ⟨rfl, HB.out⟩
  · have hm := Nat.le_trans hok maxLen_le
    have E0 := Aside0.mk (laws_szItemS_eq l0 1048576 hm (by omega) (by omega))
    rw [if_pos (by omega)] at E0
    go_enter Try.func7, Try.ntmps7
    go_wp2_with (go_at_call 20; go_loud (refine (laws_szItemS.calls _ _ _ _ _ _ (Kd.C_below HR_l0.out HB.out) HC_l0.out E0.out).mono ?_; rintro e w1 ⟨rfl, hd⟩))
    go_ret
    exact ⟨rfl, below_drawn hd⟩
end Go.Proofs.Ytimdoghlnegpgaa.P
/- Arguments of plain data (nested slices and structs) read as the printed walks' kinds say, over any program whose types are as told. -/
namespace Go.Proofs.YtimdoghlnegpgaaOpen
open Go.RowKit Go.ChangeShapes Go.WideShapes Go.Proofs.YtimdoghlnegpgaaW.PrintWords
set_option linter.unusedVariables false
set_option linter.unusedSimpArgs false

structure Opens {α : Type} (P : Program) (t : TypeId) (k : Kd α) (G : α → Prop) : Prop where
  sz : P.cellsOf t = k.sz
  op : ∀ {H : Type} (enc : TypeId × Value → H) (w : World) (base : Nat) (spare : Nat → Bool) (held : Bool) (fuel : Nat) (cs : List Value) (x : DataW H × List MemPlace), DataW.trod enc P w base spare held fuel t cs = some x → ∃ v, k.K w v cs ∧ G v

variable {P : Program} {t e : TypeId}

theorem opens_int {k : IntKind} (ht : P.underlying t = some (.int k)) (hc : P.cellsOf t = 1) : Opens P t (Kd.int k) (fun n => (Lit.int k n).wf = true) where
  sz := hc
  op := fun enc w base spare held fuel cs x h => by
    obtain ⟨n, rfl, _, hw⟩ := DataW.trod_int ht h
    exact ⟨n, rfl, hw⟩
theorem opens_bool (ht : P.underlying t = some .bool) (hc : P.cellsOf t = 1) : Opens P t Kd.bool (fun _ => True) where
  sz := hc
  op := fun enc w base spare held fuel cs x h => by
    obtain ⟨b, rfl, _⟩ := DataW.trod_bool ht h
    exact ⟨b, rfl, trivial⟩
theorem opens_string (ht : P.underlying t = some .string) (hc : P.cellsOf t = 1) : Opens P t Kd.string (fun s => s.size ≤ maxLen) where
  sz := hc
  op := fun enc w base spare held fuel cs x h => by
    obtain ⟨s, rfl, _, hs⟩ := DataW.trod_string ht h
    exact ⟨s, rfl, hs⟩

theorem exists_list {α : Type} {p : Nat → α → Prop} : ∀ n, (∀ i, i < n → ∃ v, p i v) → ∃ xs : List α, xs.length = n ∧ ∀ i v, xs[i]? = some v → p i v
  | 0, _ => ⟨[], rfl, fun i v h => by simp at h⟩
  | n + 1, h => by
    obtain ⟨xs, hl, hx⟩ := exists_list n (fun i hi => h i (by omega))
    obtain ⟨v, hv⟩ := h n (by omega)
    refine ⟨xs ++ [v], by simp [hl], fun i u hu => ?_⟩
    by_cases hi : i < n
    · rw [List.getElem?_append_left (by omega)] at hu
      exact hx i u hu
    · rw [List.getElem?_append_right (by omega)] at hu
      have : i - xs.length = 0 := by
        have := (List.getElem?_eq_some_iff.1 hu).1
        simp at this
        omega
      rw [this] at hu
      have hi' : i = n := by omega
      subst hi'
      simp at hu
      subst hu
      exact hv

theorem opens_slice {α : Type} {k : Kd α} {G : α → Prop} (ht : P.underlying t = some (.slice e)) (hc : P.cellsOf t = 1) (h : Opens P e k G) : Opens P t (Kd.slice e k) (fun xs => xs.length ≤ maxLen ∧ ∀ x ∈ xs, G x) where
  sz := hc
  op := fun enc w base spare held fuel cs x hx => by
    rcases DataW.trod_slice ht hx with ⟨rfl, rfl⟩ | ⟨a, len, cap, elems, rest, n, _, rfl, _, _, hl, hm, hlen, hel, _, _⟩
    · exact ⟨[], ⟨none, 0, rfl, Nat.le_refl _, Kd.C_nil k w⟩, by simp, fun x hx => absurd hx List.not_mem_nil⟩
    · have each : ∀ i, i < len → ∃ v, G v ∧ ∃ c, c.length = k.sz ∧ k.K w v c ∧ ∀ j u, c[j]? = some u → w.cell? (a.add (i * k.sz + j)) = some u := by
        intro i hi
        have h1 := hel i hi
        rw [List.getElem?_eq_getElem (by omega), Option.bind_eq_some_iff, h.sz] at h1
        obtain ⟨c, hc1, hc2⟩ := h1
        obtain ⟨v, hv, hg⟩ := h.op enc w base spare held n c _ hc2
        obtain ⟨_, hcl, hcell⟩ := World.cells?_some hc1
        refine ⟨v, hg, c, hcl, hv, fun j u hu => ?_⟩
        have hj : j < k.sz := by
          have := (List.getElem?_eq_some_iff.1 hu).1
          omega
        rw [← Addr.add_add, hcell j hj]
        exact hu
      obtain ⟨xs, hxl, hx⟩ := exists_list len each
      have hmx : (maxLen : Nat) ≤ 9223372036854775807 := by unfold maxLen; omega
      refine ⟨xs, ⟨some a, cap, by rw [hxl], by omega, ?_⟩, by omega, fun x hx' => ?_⟩
      · refine ⟨rfl, by omega, fun _ => ⟨a, rfl, fun j p hp => ?_⟩⟩
        obtain ⟨_, c, h1, h2, h3⟩ := hx j p hp
        exact ⟨c, h1, h2, h3⟩
      · obtain ⟨i, hi⟩ := List.mem_iff_getElem?.1 hx'
        exact (hx i x hi).1

/-- A struct's fields from a cell on. -/
structure Fields {α : Type} (P : Program) (fs : List Field) (off : Nat) (k : Kd α) (G : α → Prop) : Prop where
  from_ : ∀ f ∈ fs, off ≤ f.offset
  op : ∀ {H : Type} (enc : TypeId × Value → H) (w : World) (base : Nat) (spare : Nat → Bool) (held : Bool) (n : Nat) (cs : List Value), cs.length = k.sz → (∀ f ∈ fs, ∃ y, DataW.trod enc P w base spare held n f.type ((cs.drop (f.offset - off)).take (P.cellsOf f.type)) = some y) → ∃ v, k.K w v cs ∧ G v

theorem fields_one {α : Type} {k : Kd α} {G : α → Prop} {f : Field} (h : Opens P f.type k G) : Fields P [f] f.offset k G where
  from_ := fun g hg => by rw [List.mem_singleton.1 hg]; exact Nat.le_refl _
  op := fun enc w base spare held n cs hl hf => by
    obtain ⟨y, hy⟩ := hf f (by simp)
    rw [Nat.sub_self, List.drop_zero, h.sz, ← hl, List.take_length] at hy
    exact h.op enc w base spare held n cs y hy
theorem fields_cons {α β : Type} {k : Kd α} {k' : Kd β} {G : α → Prop} {G' : β → Prop} {f : Field} {fs : List Field} (h : Opens P f.type k G) (hs : Fields P fs (f.offset + k.sz) k' G') : Fields P (f :: fs) f.offset (Kd.pair k k') (fun x => G x.1 ∧ G' x.2) where
  from_ := fun g hg => by
    rcases List.mem_cons.1 hg with rfl | hg
    · exact Nat.le_refl _
    · have := hs.from_ g hg
      omega
  op := fun enc w base spare held n cs hl hf => by
    have hl' : cs.length = k.sz + k'.sz := hl
    obtain ⟨y, hy⟩ := hf f (by simp)
    rw [Nat.sub_self, List.drop_zero, h.sz] at hy
    obtain ⟨v, hv, hg⟩ := h.op enc w base spare held n _ y hy
    obtain ⟨u, hu, hg'⟩ := hs.op enc w base spare held n (cs.drop k.sz) (by rw [List.length_drop]; omega) (fun g hg => by
      obtain ⟨y, hy⟩ := hf g (by simp [hg])
      refine ⟨y, ?_⟩
      have := hs.from_ g hg
      rw [List.drop_drop, show k.sz + (g.offset - (f.offset + k.sz)) = g.offset - f.offset by omega]
      exact hy)
    exact ⟨(v, u), ⟨cs.take k.sz, cs.drop k.sz, (List.take_append_drop _ _).symm, hv, hu⟩, hg, hg'⟩
theorem opens_struct {α : Type} {k : Kd α} {G : α → Prop} {fs : Array Field} (ht : P.underlying t = some (.struct fs)) (hc : P.cellsOf t = k.sz) (h : Fields P fs.toList 0 k G) : Opens P t k G where
  sz := hc
  op := fun enc w base spare held fuel cs x hx => by
    obtain ⟨xs, n, _, _, hl, hlen, hf⟩ := DataW.trod_struct ht hx
    refine h.op enc w base spare held n cs (hl.trans hc) (fun f hf' => ?_)
    obtain ⟨i, hi⟩ := List.mem_iff_getElem?.1 hf'
    rw [Array.getElem?_toList] at hi
    have h1 := hf i f hi
    have : i < fs.size := by
      have := (Array.getElem?_eq_some_iff.1 hi).1
      exact this
    rw [List.getElem?_eq_getElem (by omega)] at h1
    rw [Nat.sub_zero]
    exact ⟨_, h1⟩
theorem opens_iso {α β : Type} {k : Kd α} {G : α → Prop} (f : β → α) (g : α → β) (hfg : ∀ x, f (g x) = x) (h : Opens P t k G) : Opens P t (Kd.iso k f) (fun y => G (f y)) where
  sz := h.sz
  op := fun enc w base spare held fuel cs x hx => by
    obtain ⟨v, hv, hg⟩ := h.op enc w base spare held fuel cs x hx
    exact ⟨g v, by show k.K w (f (g v)) cs; rw [hfg]; exact hv, by rw [hfg]; exact hg⟩
theorem opens_imp {α : Type} {k : Kd α} {G G' : α → Prop} (h : Opens P t k G) (hg : ∀ x, G x → G' x) : Opens P t k G' where
  sz := h.sz
  op := fun enc w base spare held fuel cs x hx => by
    obtain ⟨v, hv, hh⟩ := h.op enc w base spare held fuel cs x hx
    exact ⟨v, hv, hg v hh⟩
end Go.Proofs.YtimdoghlnegpgaaOpen
/- The pure statement of the law FnExactLinesOf: its arguments are those that its walk is told of. -/
set_option linter.unusedVariables false
namespace Go.Proofs.Ytimdoghlnegpgaa.fnExactLinesOf.Pure
open Go.RowKit Go.Proofs.YtimdoghlnegpgaaW.PrintWords Go.Proofs.YtimdoghlnegpgaaW.PrintLast Go.Proofs.Ytimdoghlnegpgaa.P Go.Proofs.YtimdoghlnegpgaaEv
theorem pure_FnExactLinesOf : ∀ (l0 : List S89), (l0.length ≤ maxLen ∧ ∀ y ∈ l0, g89 y) → ∃ k, laws_FnExactLinesOf.f k l0 = some true := by
  intro l0 h0
  exact ⟨0, if_pos (h0.1)⟩
end Go.Proofs.Ytimdoghlnegpgaa.fnExactLinesOf.Pure
-- The kit's printed words WSized, cut down by wip/gen/pack.py to what this proof reaches.
/- The law FnExactLinesOf holds: every call returns true and leaves its arguments as they were. Conditions: none beyond what the given row says. This text: the row, out of the walk's contract and the pure statement. -/
namespace Go.Proofs.Ytimdoghlnegpgaa.fnExactLinesOf
open Go.ChangeShapes Go.WideShapes Go.ChangeAt Go.RowKit Go.Proofs.YtimdoghlnegpgaaW.PrintWords Go.Proofs.YtimdoghlnegpgaaOpen Go.Proofs.Ytimdoghlnegpgaa.P
open Go.ChangeMaps (open_string shut_string)
set_option linter.unusedVariables false
set_option linter.unusedSimpArgs false
theorem own : ownKnob Try.prog.godebug = none := by kernel_rfl
theorem laidOut : laidOutB Try.prog = true := by kernel_rfl
theorem o89 : Opens Try.prog 89 k89 g89 := opens_imp (opens_iso (fun x : S89 => (x.f0, x.f1, x.f2)) (fun p => ⟨p.1, p.2.1, p.2.2⟩) (fun _ => rfl) (opens_struct Try.underlying89 (by kernel_rfl) (fields_cons (opens_int Try.underlying2 (by kernel_rfl)) (fields_cons (opens_int Try.underlying2 (by kernel_rfl)) (fields_one (opens_int Try.underlying2 (by kernel_rfl))))))) (fun _ h => h)
set_option maxRecDepth 100000 in
theorem lifted (os : Os) (started : os.Started) (H : Type) (enc : TypeId × Value → H) :
    ReturnsInHanded {} Try.checked os 7 .any (Rows.fnExactLinesOfSpec.pre6 enc Try.prog Try.f7 Rows.fnExactLinesOfRow.domain false) (Rows.fnExactLinesOfSpec.post enc Try.prog Try.f7 false true false false) := by
  refine returnsInHanded_of_change_sized (C := Try.checked) own started (by kernel_rfl) Try.func7
    (ChangeSpec.witness6 (enc := enc) (C := Try.checked) false ⟨#[], #[.slice none 0 0], []⟩ 8 (by kernel_rfl) (by kernel_rfl) (by kernel_rfl) (by kernel_rfl)) ?_
  intro W base args ds gs before hval0 hW hcnd hsz0 _
  have hsz : (DataW.weightsEach Try.prog (Try.f7.params.toList ++ Rows.fnExactLinesOfSpec.plain.varTypes Try.prog) (ds ++ gs)).all (· ≤ reachBytes) = true := hsz0
  have hval : ∀ (j : Nat) t v, Try.f7.params[j]? = some t → args[j]? = some v → Value.okWide Try.prog W .any base t v := hval0
  have hW' := hW
  obtain ⟨p, q, hA0, hV, rfl, hfz, hnd⟩ := hW
  have hA : DataW.TrodAll enc Try.prog W 0 (fun _ => true) true Try.f7.params.toList args.toList ds p := hA0
  rw [Try.params7] at hA hval hsz
  obtain ⟨v0, vs0, d0, ds0, p0, q0, hargs, rfl, rfl, h0, r0⟩ := trodAll_cons hA
  obtain ⟨rfl, rfl, rfl⟩ := trodAll_nil r0
  obtain rfl : args = #[v0] := by cases args; simp_all
  obtain ⟨rfl, rfl⟩ := trodVars_none hV
  have k0' := h0
  have lt0 : ∀ x ∈ p0, x.block < W.heap.size := by obtain ⟨m, hm⟩ := k0'; exact DataW.trod_lt m _ _ _ hm
  obtain ⟨a0, len0, cap0, rfl⟩ := okWide_slice Try.underlying29 (hval 0 29 v0 rfl rfl)
  obtain ⟨fuel0, hf0⟩ := h0
  have hf0' : DataW.trod enc Try.prog W 0 (fun _ => true) true fuel0 29 [.slice a0 len0 cap0] = some (d0, p0) := hf0
  obtain ⟨x0, ⟨A0, c0, he0, hl0, hC0⟩, hG0⟩ := (opens_slice Try.underlying29 (by kernel_rfl) o89).op enc W 0 (fun _ => true) true fuel0 _ _ hf0'
  obtain ⟨rfl, rfl, rfl⟩ : a0 = A0 ∧ len0 = x0.length ∧ cap0 = c0 := by simpa using he0
  clear hA0 hval0 hsz0 hsz
  obtain ⟨k, hk⟩ := Pure.pure_FnExactLinesOf x0 hG0
  refine (laws_FnExactLinesOf.calls k _ _ x0 true W hC0 hl0 hk).mono fun e W' ⟨he, bel0⟩ => ?_
  have bel : Below W.heap.size W W' := bel0
  subst he
  exact ⟨_, rfl, _, _, _, [], _, [], hW', trodAll_mk1 (shut_bool Try.underlying4 _), (trodAll_cons_mk (Below.trod laidOut (by kernel_rfl) (of_decide_eq_true (by kernel_rfl)) k0' bel lt0) trodAll_mk0), rfl, bel.frame _, fun h => by cases h⟩
theorem over : Rows.fnExactLinesOfRow.holds Try.pinned (OpenSpec.ofChange Rows.fnExactLinesOfSpec) :=
  OpenClaim.holds_of_wide 7 Try.f7 rfl rfl rfl rfl rfl rfl rfl ⟨rfl, rfl, rfl, rfl, rfl⟩ rfl rfl rfl rfl rfl (by kernel_rfl) Try.func7 (by kernel_rfl)
    (of_decide_eq_true (by kernel_rfl)) (by unfold Func.isWrapper; first | (rw [if_pos (by decide +kernel)]; kernel_rfl) | (rw [if_neg (by decide +kernel)]; exact ⟨rfl, rfl⟩))
    (fun os started H enc _ => lifted os started H enc)
theorem proved : Rows.FnExactLinesOfSaid := over
#print axioms proved
end Go.Proofs.Ytimdoghlnegpgaa.fnExactLinesOf
namespace Go.Proofs.Ytimdoghlnegpgaa
/-- The row, under a short name, for the claim. -/
theorem fnExactLinesOf_holds : Rows.FnExactLinesOfSaid := fnExactLinesOf.proved
end Go.Proofs.Ytimdoghlnegpgaa
