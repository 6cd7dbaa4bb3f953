/- The law FnExactWriteCode holds for every call: part 3 of 3 of the proof (the row). Conditions: none beyond what the given row says. -/
import Derived.Test.YtlecpdpdcocibaaDoorMFnExactWriteCode0
import Derived.Test.YtlecpdpdcocibaaDoorMFnExactWriteCode1
import Derived.ChangeSlices
import Derived.ChangeArms
import Derived.SizedLaws
import Derived.Test.YtlecpdpdcocibaaDoorRows
import Derived.WalkKit
import Derived.ProofKit
import Derived.OpenShut
import Derived.ShutString
import Derived.ChangeOld
import Derived.Below
import Derived.LaidMore
import Derived.Stop.Joined
import Derived.SevenTiedAt
import Derived.Test.YtlecpdpdcocibaaDoorTie
import Derived.Test.YtlecpdpdcocibaaDoorCards
set_option maxHeartbeats 16000000
set_option maxRecDepth 100000
namespace Go.Proofs.YtlecpdpdcocibaaDoor.P
open Go.RowKit Go.Proofs.YtlecpdpdcocibaaDoorW.PrintWords Go.Proofs.YtlecpdpdcocibaaDoorW.PrintLast Go.Proofs.YtlecpdpdcocibaaDoorW.PrintMore
attribute [local go_sem] max2_int min2_int max_two min_two max_three min_three max_four min_four
set_option linter.unusedVariables false
set_option linter.unusedSimpArgs false
/-! ### spec_WriteCode: function 10 -/
def spec_WriteCode.f (k : Nat) (l0_0 : List S68) : Option ByteArray := if spec_CodeOk.f k l0_0 = some (codeB l0_0) ∧ (∀ n : Nat, n < 10000 → spec_l1Dec.f k (n : Int) = some (dec (n : Int))) then some (wcT l0_0) else none
theorem spec_WriteCode.calls (k : Nat) (A0_0 : Option Addr) (c0_0 : Nat) (l0_0 : List S68) (r : ByteArray) (w : World) (hr0_0 : Kd.C k68 w A0_0 l0_0.length l0_0) (hc0_0 : l0_0.length ≤ c0_0) (h : spec_WriteCode.f k l0_0 = some r) :
    Calls Tryd.prog 10 #[.agg #[.slice A0_0 l0_0.length c0_0]] w fun e w' => e = .returned (.string r) ∧ Below w.heap.size w w' := by
  unfold spec_WriteCode.f at h
  split at h
  · rename_i hk
    obtain rfl := Option.some.inj h
    exact WriteCodeS_hand k A0_0 c0_0 l0_0 hk.1 hk.2 w hr0_0 hc0_0
  · simp at h
end Go.Proofs.YtlecpdpdcocibaaDoor.P
namespace Go.Proofs.YtlecpdpdcocibaaDoor.P
open Go.RowKit Go.Proofs.YtlecpdpdcocibaaDoorW.PrintWords Go.Proofs.YtlecpdpdcocibaaDoorW.PrintLast Go.Proofs.YtlecpdpdcocibaaDoorEv
set_option linter.unusedVariables false
set_option linter.unusedSimpArgs false
theorem dec_nat (u : Nat) : dec (u : Int) = ⟨(Lib.decDigits u).toArray⟩ := by
  unfold dec Lib.itoa
  rw [if_neg (by omega), Int.toNat_natCast]
theorem digit_text (d : Nat) (h : d < 10) : strOfNums [(wrap64 (48 + (d : Int))) % 256] = (⟨#[UInt8.ofNat (48 + d)]⟩ : ByteArray) := by
  rw [wrap_id (by omega) (by omega), show ((48 + (d : Int)) % 256) = ((48 + d : Nat) : Int) by omega]
  unfold strOfNums
  simp only [List.map_cons, List.map_nil, Int.toNat_natCast]
theorem l1Dec_loop : ∀ (u : Nat), u < 100000 → 0 < u → ∀ (acc : ByteArray), acc.size + u ≤ 1000000 → Ev (fun k => spec_l1Dec.l0 k (u : Int) acc) ((⟨(Lib.decDigits u).toArray⟩ : ByteArray) ++ acc) := by
  intro u
  induction u using Nat.strongRecOn with
  | ind u ih =>
    intro hu hp acc ha
    rw [ev_succ]
    simp only [spec_l1Dec.l0, ev_ite]
    have hm : Int.tmod (u : Int) 10 = ((u % 10 : Nat) : Int) := by rw [Int.tmod_eq_emod_of_nonneg (by omega)]; omega
    have hd : Int.tdiv (u : Int) 10 = ((u / 10 : Nat) : Int) := by rw [Int.tdiv_eq_ediv_of_nonneg (by omega)]; omega
    rw [if_pos (by omega), ev_bind_some]
    simp only [ev_ite, hm, hd, digit_text (u % 10) (Nat.mod_lt _ (by omega))]
    have hz : (⟨#[UInt8.ofNat (48 + u % 10)]⟩ : ByteArray).size = 1 := rfl
    rw [hz, if_pos (by omega), wrap_id (by omega) (by omega)]
    by_cases h10 : u < 10
    · rw [show u / 10 = 0 by omega, ev_succ]
      simp only [spec_l1Dec.l0]
      rw [show ((0 : Nat) : Int) = 0 from rfl]
      simp only [gt_iff_lt, Int.lt_irrefl, if_false]
      refine ev_some.2 ?_
      rw [Lib.decDigits, dif_pos h10, show u % 10 = u by omega]
    · refine ev_congr (ih (u / 10) (by omega) (by omega) (by omega) _ (by rw [ByteArray.size_append, hz]; omega)) ?_
      conv => rhs; rw [Lib.decDigits, dif_neg h10]
      rw [← ByteArray.append_assoc]
      congr 1
theorem spec_l1Dec_ev (u : Nat) (h : u < 10000) : Ev (fun k => spec_l1Dec.f k (u : Int)) (dec (u : Int)) := by
  unfold spec_l1Dec.f
  rw [dec_nat, ev_ite]
  by_cases h0 : u = 0
  · subst h0
    rw [if_pos (show ((0 : Nat) : Int) = 0 from rfl)]
    refine ev_some.2 ?_
    rw [Lib.decDigits, dif_pos (by omega)]
    rfl
  · rw [if_neg (by omega)]
    refine ev_congr (l1Dec_loop u (by omega) (by omega) ⟨#[]⟩ (by show 0 + u ≤ _; omega)) ?_
    exact ByteArray.append_empty
theorem impl_WriteCode_ev (l : List S68) : Ev (fun _ => impl_WriteCode.f l) (wcT l) := ⟨0, fun _ _ => rfl⟩
theorem spec_WriteCode_ev (l : List S68) (hl : l.length ≤ 1048576) : Ev (fun k => spec_WriteCode.f k l) (wcT l) := by
  obtain ⟨k0, h0⟩ := spec_CodeOk_ev l hl
  have hd : ∀ n, n ≤ 10000 → ∃ k1, ∀ k, k1 ≤ k → ∀ u : Nat, u < n → spec_l1Dec.f k (u : Int) = some (dec (u : Int)) := by
    intro n
    induction n with
    | zero => exact fun _ => ⟨0, fun k _ s hs => absurd hs (Nat.not_lt_zero _)⟩
    | succ n ih =>
      intro hn
      obtain ⟨k1, h1⟩ := ih (by omega)
      obtain ⟨k2, h2⟩ := spec_l1Dec_ev n (by omega)
      refine ⟨max k1 k2, fun k hk s hs => ?_⟩
      by_cases e : s = n
      · subst e
        exact h2 k (by omega)
      · exact h1 k (by omega) s (by omega)
  obtain ⟨k1, h1⟩ := hd 10000 (Nat.le_refl _)
  exact ⟨max k0 k1, fun k hk => if_pos (show _ ∧ _ from ⟨h0 k (by omega), h1 k (by omega)⟩)⟩
end Go.Proofs.YtlecpdpdcocibaaDoor.P
set_option linter.unusedVariables false
set_option linter.unusedSimpArgs false
namespace Go.Proofs.YtlecpdpdcocibaaDoor.P
open Go.RowKit Go.Proofs.YtlecpdpdcocibaaDoorW.PrintWords Go.Proofs.YtlecpdpdcocibaaDoorW.PrintLast Go.Proofs.YtlecpdpdcocibaaDoorW.PrintMore Go.Proofs.YtlecpdpdcocibaaDoorEv
def laws_FnExactWriteCode.dom_ (l0_0 : List S127) : Prop := (l0_0.length ≤ maxLen ∧ ∀ y ∈ l0_0, g127 y)
open Classical in
noncomputable def laws_FnExactWriteCode.f (k : Nat) (l0_0 : List S127) : Option Bool := if laws_FnExactWriteCode.dom_ l0_0 then some true else none
theorem laws_FnExactWriteCode.calls (k : Nat) (A0_0 : Option Addr) (c0_0 : Nat) (l0_0 : List S127) (r : Bool) (w : World) (ht : Tab w) (hr0_0 : Kd.C k127 w A0_0 l0_0.length l0_0) (hc0_0 : l0_0.length ≤ c0_0) (h : laws_FnExactWriteCode.f k l0_0 = some r) :
  Calls Tryd.prog 3 #[.agg #[.slice A0_0 l0_0.length c0_0]] w fun e w' => e = .returned (.bool r) ∧ Below w.heap.size w w' := by
  have hok : laws_FnExactWriteCode.dom_ l0_0 := by
    unfold laws_FnExactWriteCode.f at h
    split at h
    · assumption
    · simp at h
  have hr : r = true := by
    unfold laws_FnExactWriteCode.f at h
    rw [if_pos hok] at h
    simpa using h.symm
  subst hr
  clear h
  have HR_l0_0 := q_ hr0_0
  have HC_l0_0 := q_ hc0_0
  have HT := q_ ht
  clear ht
  clear hr0_0 hc0_0
  have HB := q_ (Below.refl w.heap.size w)
  by_cases hsmall : l0_0.length + ws wCBlock l0_0 ≤ 1048576
  · obtain ⟨hm0, hg⟩ := hok
    have hm := Nat.le_trans hm0 maxLen_le
    have hl' : (l0_0.map cCBlock).length ≤ 1048576 := by simp; omega
    have hh : ∀ x ∈ l0_0.map cCBlock, h68 x := fun y hy => by obtain ⟨z, hz, rfl⟩ := List.mem_map.1 hy; exact hCBlock_of_g (hg z hz)
    obtain ⟨_, g0⟩ := ev_get (laws_szCode_ev l0_0 1048576 (by omega) (by omega) hm hg)
    rw [if_neg (by omega)] at g0
    obtain ⟨_, g1⟩ := ev_get (laws_toCode_ev l0_0 hsmall)
    obtain ⟨_, g2⟩ := ev_get (spec_WriteCode_ev (l0_0.map cCBlock) hl')
    obtain ⟨_, g3⟩ := ev_get (impl_WriteCode_ev (l0_0.map cCBlock))
    obtain ⟨_, g5⟩ := ev_get (laws_eqCode_ev (l0_0.map cCBlock) (by omega) hh)
    have n1 : decide ((1048576 : Int) - ((l0_0.length + ws wCBlock l0_0 : Nat) : Int) < 0) = false := decide_eq_false (by omega)
    obtain ⟨T, hT⟩ : ∃ T, T = wcT (l0_0.map cCBlock) := ⟨_, rfl⟩
    rw [← hT] at g2 g3
    clear hT
    have E0 := q_ g0
    have E1 := q_ g1
    have E2 := q_ g2
    have E3 := q_ g3
    have E5 := q_ g5
    clear g0 g1 g2 g3 g5 hh hl' hm hm0 hg
    generalize l0_0.map cCBlock = X at *
    have T1 : J0 True := ⟨trivial⟩
    have T2 : J0 True := ⟨trivial⟩
    have T3 : J0 True := ⟨trivial⟩
    have T4 : J0 True := ⟨trivial⟩
    have T5 : J0 True := ⟨trivial⟩
    have T6 : J0 True := ⟨trivial⟩
    go_enter Tryd.func3, Tryd.ntmps3
    go_wp2_with ((with_reducible refine gate_dst (N := 1) rfl ?_); clear T1; refine box_event ?hg (N := 1) ?hd (cs := #[.slice A0_0 l0_0.length c0_0]) (t := 24) ?hr ?_; (case hd => rfl); (case hg => rfl); (case hr => first | (go_simp; done) | (go_simp; rfl)); intro gb_p0 hg w1 hbox hb; have BK_p0 := q_ hbox; have GB_p0 := q_ hg; have LB_p0 := q_ (blk_lt hbox); have Y1 := q_ hb.size; replace HB := sb_ HB hb; have hcz_p0_0 : w1.cell? ⟨gb_p0, 0, none⟩ = some (.slice A0_0 l0_0.length c0_0) := (blk_cell BK_p0.o 0).trans rfl; clear hb hg hbox)
    go_wp2_with (go_at_call 9; clear T2; refine (laws_szCode.calls _ _ _ _ _ _ _ (Kd.C_below HR_l0_0.o HB.o) (HC_l0_0.o) E0.o).mono ?_; rintro e w2 ⟨rfl, hb⟩; replace BK_p0 := lb_ BK_p0 hb; replace hcz_p0_0 := (d1_ BK_p0).1; have Y2 := q_ hb.size; replace HB := sb_ HB hb; clear hb)
    go_wp2_with (go_at_call 11; clear T3; refine (laws_toCode.calls _ _ _ _ _ _ (Kd.C_below HR_l0_0.o HB.o) (HC_l0_0.o) E1.o).mono ?_; rintro e w3 ⟨v_a, rfl, hO, hb⟩; replace BK_p0 := lb_ BK_p0 hb; replace hcz_p0_0 := (d1_ BK_p0).1; obtain ⟨lo_a, hi_a, hz, hO⟩ := S_born hO HB.o; have Z_a := q_ hz; clear hz; obtain ⟨A_a, c_a, rfl⟩ := Kd.S_slice hO; have O_a := q_ hO; clear hO; have Y3 := q_ hb.size; replace HB := sb_ HB hb; clear hb)
    go_wp2_with (go_at_call 10; clear T4; refine (spec_WriteCode.calls _ _ _ _ _ _ (C_of_S O_a.o) (L_of_S O_a.o) E2.o).mono ?_; rintro e w4 ⟨rfl, hb⟩; replace O_a := Sb_ O_a hb; replace BK_p0 := lb_ BK_p0 hb; replace hcz_p0_0 := (d1_ BK_p0).1; have Y4 := q_ hb.size; replace HB := sb_ HB hb; clear hb)
    go_wp2_with (go_at_call 11; clear T5; refine (laws_toCode.calls _ _ _ _ _ _ (Kd.C_below HR_l0_0.o HB.o) (HC_l0_0.o) E1.o).mono ?_; rintro e w5 ⟨v_x, rfl, hO, hb⟩; replace O_a := Sb_ O_a hb; replace BK_p0 := lb_ BK_p0 hb; replace hcz_p0_0 := (d1_ BK_p0).1; obtain ⟨lo_x, hi_x, hz, hO⟩ := S_born hO HB.o; have Z_x := q_ hz; clear hz; obtain ⟨A_x, c_x, rfl⟩ := Kd.S_slice hO; have O_x := q_ hO; clear hO; have Y5 := q_ hb.size; replace HB := sb_ HB hb; clear hb; have hal_p0_0 : ∀ o_, (w5.alloc o_).cell? ⟨gb_p0, 0, none⟩ = some (.slice A0_0 l0_0.length c0_0) := fun o_ => ((below_alloc (Below.refl _ _) o_ : Below w5.heap.size w5 _).cell (blk_lt BK_p0.o)).trans hcz_p0_0)
    go_wp2_with (go_at_call 12; clear T6; clear hal_p0_0; obtain ⟨w6, hW⟩ : ∃ w_ : World, w_ = w5.alloc (.cells #[.slice A_x X.length c_x] 29) := ⟨_, rfl⟩; obtain ⟨gb_x, hg⟩ : ∃ g_ : Nat, g_ = w5.heap.size := ⟨_, rfl⟩; rw [← hW, ← hg]; have hb : Below w5.heap.size w5 w6 := (by rw [hW]; exact below_alloc (Below.refl _ _) _); have hbox : w6.heap[gb_x]? = some (.cells #[.slice A_x X.length c_x] 29 (0, 0)) := (by rw [hW, hg]; exact blk_new _ _); replace O_a := Sb_ O_a hb; replace O_x := Sb_ O_x hb; replace BK_p0 := lb_ BK_p0 hb; replace hcz_p0_0 := (d1_ BK_p0).1; have BK_x := q_ hbox; have GB_x := q_ hg; have LB_x := q_ (blk_lt hbox); have Y6 := q_ hb.size; replace HB := sb_ HB hb; have hcz_x_0 : w6.cell? ⟨gb_x, 0, none⟩ = some (.slice A_x X.length c_x) := (blk_cell BK_x.o 0).trans rfl; clear hb hg hbox hW; refine (impl_WriteCode.calls _ _ _ _ _ (HT.o.below HB.o) (C_of_S O_x.o) (L_of_S O_x.o) E3.o).mono ?_; rintro e w7 ⟨rfl, hb⟩; replace O_a := Sb_ O_a hb; replace O_x := Sb_ O_x hb; replace BK_p0 := lb_ BK_p0 hb; replace hcz_p0_0 := (d1_ BK_p0).1; replace BK_x := lb_ BK_x hb; replace hcz_x_0 := (d1_ BK_x).1; have Y7 := q_ hb.size; replace HB := sb_ HB hb; clear hb)
    have hb : Below w7.heap.size w7 w7.drew := below_drew (Below.refl _ _)
    replace O_a := Sb_ O_a hb
    replace O_x := Sb_ O_x hb
    replace BK_p0 := q_ (blk_drew BK_p0.o)
    replace hcz_p0_0 : w7.drew.cell? ⟨gb_p0, 0, none⟩ = some (.slice A0_0 l0_0.length c0_0) := (blk_cell BK_p0.o 0).trans rfl
    replace BK_x := q_ (blk_drew BK_x.o)
    replace hcz_x_0 : w7.drew.cell? ⟨gb_x, 0, none⟩ = some (.slice A_x X.length c_x) := (blk_cell BK_x.o 0).trans rfl
    have Y8 := q_ hb.size
    replace HB := sb_ HB hb
    clear hb
    refine start_ (n := 5) (S := fun w' => w'.cell? ⟨gb_x, 0, none⟩ = some (.slice A_x X.length c_x) ∧ w'.cell? ⟨gb_p0, 0, none⟩ = some (.slice A0_0 l0_0.length c0_0)) (ds := []) #[false, false, false, false, false] (by kernel_rfl) rfl rfl ⟨hcz_x_0, hcz_p0_0⟩ (fun hHeld => ?_)
    generalize w7.drew = w8 at O_a O_x BK_p0 BK_x hcz_p0_0 hcz_x_0 Y8 HB hHeld ⊢
    refine take_ (i := 0) (N := some 22) (v := ?_) (a' := ?_) #[true, false, false, false, false] rfl rfl (by kernel_rfl) (fun _ _ _ h => h) (Or.inl ⟨by rfl, ?_⟩) hHeld ?_ ?_
    rotate_left
    · rintro w' ⟨s0, s1⟩
      go_simp
      with_reducible rfl
    rotate_left
    · simp only [Act.put, List.setIfInBounds_toArray, List.set_cons_zero, List.set_cons_succ, i64_w, i32_w]
      rfl
    refine take_ (i := 1) (N := some 23) (v := ?_) (a' := ?_) #[true, true, false, false, false] rfl rfl (by kernel_rfl) (fun _ _ _ h => h) (Or.inl ⟨by rfl, ?_⟩) hHeld ?_ ?_
    rotate_left
    · rintro w' ⟨s0, s1⟩
      go_simp
      with_reducible rfl
    rotate_left
    · simp only [Act.put, List.setIfInBounds_toArray, List.set_cons_zero, List.set_cons_succ, i64_w, i32_w]
      rfl
    refine one_ (i := 2) (N := some 24) #[true, true, true, false, false] rfl rfl (by kernel_rfl) (by decide) (fun K hK => ?_)
    refine goes_ Tryd.func11 (by kernel_rfl) rfl #[.agg #[.slice A0_0 l0_0.length c0_0]] (by rfl) rfl rfl (by (try simp only [List.map_toArray, List.map_cons, List.map_nil]); first | done | rfl | (simp only [List.length_drop, List.length_take]; rfl)) ?_
    with_reducible refine (laws_toCode.calls _ _ _ _ _ _ (Kd.C_below HR_l0_0.o HB.o) (HC_l0_0.o) E1.o).mono ?_
    rintro e w9 ⟨v_b, rfl, hO, hb⟩
    refine ⟨_, rfl, ?_⟩
    replace O_a := Sb_ O_a hb
    replace O_x := Sb_ O_x hb
    replace BK_p0 := lb_ BK_p0 hb
    replace hcz_p0_0 := (d1_ BK_p0).1
    replace BK_x := lb_ BK_x hb
    replace hcz_x_0 := (d1_ BK_x).1
    obtain ⟨lo_b, hi_b, hz, hO⟩ := S_born hO HB.o
    have Z_b := q_ hz
    clear hz
    obtain ⟨A_b, c_b, rfl⟩ := Kd.S_slice hO
    have O_b := q_ hO
    clear hO
    have Y9 := q_ hb.size
    replace HB := sb_ HB hb
    clear hb
    refine hK.out _ _ ⟨hcz_x_0, hcz_p0_0⟩ (fun hHeld => ?_)
    clear hK K
    refine norm_ (a' := ?_) ?_ ?_
    rotate_left
    · show Act.put _ (some 24) _ = _
      simp only [Act.put, List.setIfInBounds_toArray, List.set_cons_zero, List.set_cons_succ, i64_w, i32_w]
      rfl
    refine one_ (i := 3) (N := some 25) #[true, true, true, true, false] rfl rfl (by kernel_rfl) (by decide) (fun K hK => ?_)
    refine goes_ Tryd.func13 (by kernel_rfl) rfl #[.agg #[.slice A_x X.length c_x], .agg #[.slice A_b X.length c_b]] (by rfl) rfl rfl (by (try simp only [List.map_toArray, List.map_cons, List.map_nil]); first | done | rfl | (simp only [List.length_drop, List.length_take]; rfl)) ?_
    with_reducible refine (laws_eqCode.calls _ _ _ _ _ _ _ _ _ (C_of_S O_x.o) (L_of_S O_x.o) (C_of_S O_b.o) (L_of_S O_b.o) E5.o).mono ?_
    rintro e w10 ⟨rfl, hb⟩
    refine ⟨_, rfl, ?_⟩
    replace O_a := Sb_ O_a hb
    replace O_x := Sb_ O_x hb
    replace O_b := Sb_ O_b hb
    replace BK_p0 := lb_ BK_p0 hb
    replace hcz_p0_0 := (d1_ BK_p0).1
    replace BK_x := lb_ BK_x hb
    replace hcz_x_0 := (d1_ BK_x).1
    have Y10 := q_ hb.size
    replace HB := sb_ HB hb
    clear hb
    refine hK.out _ _ ⟨hcz_x_0, hcz_p0_0⟩ (fun hHeld => ?_)
    clear hK K
    refine norm_ (a' := ?_) ?_ ?_
    rotate_left
    · show Act.put _ (some 25) _ = _
      simp only [Act.put, List.setIfInBounds_toArray, List.set_cons_zero, List.set_cons_succ, i64_w, i32_w]
      rfl
    refine pure_ (i := 4) (N := some 26) (v := ?_) (a' := ?_) #[true, true, true, true, true] rfl rfl (by kernel_rfl) (fun _ _ _ h => h) (Or.inl ⟨by rfl, ?_⟩) ?_ ?_
    rotate_left
    · intro w'
      go_simp
      with_reducible rfl
    rotate_left
    · simp only [Act.put, List.setIfInBounds_toArray, List.set_cons_zero, List.set_cons_succ, i64_w, i32_w]
      rfl
    refine done_ (by kernel_rfl) ?_
    go_wp2_with fail
    go_ret
    exact ⟨rfl, HB.o⟩
  · obtain ⟨hm0, hg⟩ := hok
    have hm := Nat.le_trans hm0 maxLen_le
    obtain ⟨_, g0⟩ := ev_get (laws_szCode_ev l0_0 1048576 (by omega) (by omega) hm hg)
    rw [if_pos (by omega)] at g0
    have E0 := q_ g0
    clear g0
    have T1 : J0 True := ⟨trivial⟩
    have T2 : J0 True := ⟨trivial⟩
    go_enter Tryd.func3, Tryd.ntmps3
    go_wp2_with ((with_reducible refine gate_dst (N := 1) rfl ?_); clear T1; refine box_event ?hg (N := 1) ?hd (cs := #[.slice A0_0 l0_0.length c0_0]) (t := 24) ?hr ?_; (case hd => rfl); (case hg => rfl); (case hr => first | (go_simp; done) | (go_simp; rfl)); intro gb_p0 hg w1 hbox hb; have BK_p0 := q_ hbox; have GB_p0 := q_ hg; have LB_p0 := q_ (blk_lt hbox); have Y1 := q_ hb.size; replace HB := sb_ HB hb; have hcz_p0_0 : w1.cell? ⟨gb_p0, 0, none⟩ = some (.slice A0_0 l0_0.length c0_0) := (blk_cell BK_p0.o 0).trans rfl; clear hb hg hbox)
    go_wp2_with (go_at_call 9; clear T2; refine (laws_szCode.calls _ _ _ _ _ _ _ (Kd.C_below HR_l0_0.o HB.o) (HC_l0_0.o) E0.o).mono ?_; rintro e w2 ⟨rfl, hb⟩; replace BK_p0 := lb_ BK_p0 hb; replace hcz_p0_0 := (d1_ BK_p0).1; have Y2 := q_ hb.size; replace HB := sb_ HB hb; clear hb)
    go_ret
    exact ⟨rfl, HB.o⟩
end Go.Proofs.YtlecpdpdcocibaaDoor.P
namespace Go.Proofs.YtlecpdpdcocibaaDoorOpen
open Go.RowKit Go.ChangeShapes Go.WideShapes Go.Proofs.YtlecpdpdcocibaaDoorW.PrintWords
set_option linter.unusedVariables false
set_option linter.unusedSimpArgs false
structure Opens {α : Type} (P : Program) (t : TypeId) (k : Kd α) (G : α → Prop) : Prop where
  sz : P.cellsOf t = k.sz
  op : ∀ {H : Type} (enc : TypeId × Value → H) (w : World) (base : Nat) (spare : Nat → Bool) (held : Bool) (fuel : Nat) (cs : List Value) (x : DataW H × List MemPlace), DataW.trod enc P w base spare held fuel t cs = some x → ∃ v, k.K w v cs ∧ G v
variable {P : Program} {t e : TypeId}
theorem opens_int {k : IntKind} (ht : P.underlying t = some (.int k)) (hc : P.cellsOf t = 1) : Opens P t (Kd.int k) (fun n => (Lit.int k n).wf = true) where
  sz := hc
  op := fun enc w base spare held fuel cs x h => by
    obtain ⟨n, rfl, _, hw⟩ := DataW.trod_int ht h
    exact ⟨n, rfl, hw⟩
theorem opens_bool (ht : P.underlying t = some .bool) (hc : P.cellsOf t = 1) : Opens P t Kd.bool (fun _ => True) where
  sz := hc
  op := fun enc w base spare held fuel cs x h => by
    obtain ⟨b, rfl, _⟩ := DataW.trod_bool ht h
    exact ⟨b, rfl, trivial⟩
theorem opens_string (ht : P.underlying t = some .string) (hc : P.cellsOf t = 1) : Opens P t Kd.string (fun s => s.size ≤ maxLen) where
  sz := hc
  op := fun enc w base spare held fuel cs x h => by
    obtain ⟨s, rfl, _, hs⟩ := DataW.trod_string ht h
    exact ⟨s, rfl, hs⟩
theorem exists_list {α : Type} {p : Nat → α → Prop} : ∀ n, (∀ i, i < n → ∃ v, p i v) → ∃ xs : List α, xs.length = n ∧ ∀ i v, xs[i]? = some v → p i v
  | 0, _ => ⟨[], rfl, fun i v h => by simp at h⟩
  | n + 1, h => by
    obtain ⟨xs, hl, hx⟩ := exists_list n (fun i hi => h i (by omega))
    obtain ⟨v, hv⟩ := h n (by omega)
    refine ⟨xs ++ [v], by simp [hl], fun i u hu => ?_⟩
    by_cases hi : i < n
    · rw [List.getElem?_append_left (by omega)] at hu
      exact hx i u hu
    · rw [List.getElem?_append_right (by omega)] at hu
      have : i - xs.length = 0 := by
        have := (List.getElem?_eq_some_iff.1 hu).1
        simp at this
        omega
      rw [this] at hu
      have hi' : i = n := by omega
      subst hi'
      simp at hu
      subst hu
      exact hv
theorem opens_slice {α : Type} {k : Kd α} {G : α → Prop} (ht : P.underlying t = some (.slice e)) (hc : P.cellsOf t = 1) (h : Opens P e k G) : Opens P t (Kd.slice e k) (fun xs => xs.length ≤ maxLen ∧ ∀ x ∈ xs, G x) where
  sz := hc
  op := fun enc w base spare held fuel cs x hx => by
    rcases DataW.trod_slice ht hx with ⟨rfl, rfl⟩ | ⟨a, len, cap, elems, rest, n, _, rfl, _, _, hl, hm, hlen, hel, _, _⟩
    · exact ⟨[], ⟨none, 0, rfl, Nat.le_refl _, Kd.C_nil k w⟩, by simp, fun x hx => absurd hx List.not_mem_nil⟩
    · have each : ∀ i, i < len → ∃ v, G v ∧ ∃ c, c.length = k.sz ∧ k.K w v c ∧ ∀ j u, c[j]? = some u → w.cell? (a.add (i * k.sz + j)) = some u := by
        intro i hi
        have h1 := hel i hi
        rw [List.getElem?_eq_getElem (by omega), Option.bind_eq_some_iff, h.sz] at h1
        obtain ⟨c, hc1, hc2⟩ := h1
        obtain ⟨v, hv, hg⟩ := h.op enc w base spare held n c _ hc2
        obtain ⟨_, hcl, hcell⟩ := World.cells?_some hc1
        refine ⟨v, hg, c, hcl, hv, fun j u hu => ?_⟩
        have hj : j < k.sz := by
          have := (List.getElem?_eq_some_iff.1 hu).1
          omega
        rw [← Addr.add_add, hcell j hj]
        exact hu
      obtain ⟨xs, hxl, hx⟩ := exists_list len each
      have hmx : (maxLen : Nat) ≤ 9223372036854775807 := by unfold maxLen; omega
      refine ⟨xs, ⟨some a, cap, by rw [hxl], by omega, ?_⟩, by omega, fun x hx' => ?_⟩
      · refine ⟨rfl, by omega, fun _ => ⟨a, rfl, fun j p hp => ?_⟩⟩
        obtain ⟨_, c, h1, h2, h3⟩ := hx j p hp
        exact ⟨c, h1, h2, h3⟩
      · obtain ⟨i, hi⟩ := List.mem_iff_getElem?.1 hx'
        exact (hx i x hi).1
structure Fields {α : Type} (P : Program) (fs : List Field) (off : Nat) (k : Kd α) (G : α → Prop) : Prop where
  from_ : ∀ f ∈ fs, off ≤ f.offset
  op : ∀ {H : Type} (enc : TypeId × Value → H) (w : World) (base : Nat) (spare : Nat → Bool) (held : Bool) (n : Nat) (cs : List Value), cs.length = k.sz → (∀ f ∈ fs, ∃ y, DataW.trod enc P w base spare held n f.type ((cs.drop (f.offset - off)).take (P.cellsOf f.type)) = some y) → ∃ v, k.K w v cs ∧ G v
theorem fields_one {α : Type} {k : Kd α} {G : α → Prop} {f : Field} (h : Opens P f.type k G) : Fields P [f] f.offset k G where
  from_ := fun g hg => by rw [List.mem_singleton.1 hg]; exact Nat.le_refl _
  op := fun enc w base spare held n cs hl hf => by
    obtain ⟨y, hy⟩ := hf f (by simp)
    rw [Nat.sub_self, List.drop_zero, h.sz, ← hl, List.take_length] at hy
    exact h.op enc w base spare held n cs y hy
theorem fields_cons {α β : Type} {k : Kd α} {k' : Kd β} {G : α → Prop} {G' : β → Prop} {f : Field} {fs : List Field} (h : Opens P f.type k G) (hs : Fields P fs (f.offset + k.sz) k' G') : Fields P (f :: fs) f.offset (Kd.pair k k') (fun x => G x.1 ∧ G' x.2) where
  from_ := fun g hg => by
    rcases List.mem_cons.1 hg with rfl | hg
    · exact Nat.le_refl _
    · have := hs.from_ g hg
      omega
  op := fun enc w base spare held n cs hl hf => by
    have hl' : cs.length = k.sz + k'.sz := hl
    obtain ⟨y, hy⟩ := hf f (by simp)
    rw [Nat.sub_self, List.drop_zero, h.sz] at hy
    obtain ⟨v, hv, hg⟩ := h.op enc w base spare held n _ y hy
    obtain ⟨u, hu, hg'⟩ := hs.op enc w base spare held n (cs.drop k.sz) (by rw [List.length_drop]; omega) (fun g hg => by
      obtain ⟨y, hy⟩ := hf g (by simp [hg])
      refine ⟨y, ?_⟩
      have := hs.from_ g hg
      rw [List.drop_drop, show k.sz + (g.offset - (f.offset + k.sz)) = g.offset - f.offset by omega]
      exact hy)
    exact ⟨(v, u), ⟨cs.take k.sz, cs.drop k.sz, (List.take_append_drop _ _).symm, hv, hu⟩, hg, hg'⟩
theorem opens_struct {α : Type} {k : Kd α} {G : α → Prop} {fs : Array Field} (ht : P.underlying t = some (.struct fs)) (hc : P.cellsOf t = k.sz) (h : Fields P fs.toList 0 k G) : Opens P t k G where
  sz := hc
  op := fun enc w base spare held fuel cs x hx => by
    obtain ⟨xs, n, _, _, hl, hlen, hf⟩ := DataW.trod_struct ht hx
    refine h.op enc w base spare held n cs (hl.trans hc) (fun f hf' => ?_)
    obtain ⟨i, hi⟩ := List.mem_iff_getElem?.1 hf'
    rw [Array.getElem?_toList] at hi
    have h1 := hf i f hi
    have : i < fs.size := by
      have := (Array.getElem?_eq_some_iff.1 hi).1
      exact this
    rw [List.getElem?_eq_getElem (by omega)] at h1
    rw [Nat.sub_zero]
    exact ⟨_, h1⟩
theorem opens_iso {α β : Type} {k : Kd α} {G : α → Prop} (f : β → α) (g : α → β) (hfg : ∀ x, f (g x) = x) (h : Opens P t k G) : Opens P t (Kd.iso k f) (fun y => G (f y)) where
  sz := h.sz
  op := fun enc w base spare held fuel cs x hx => by
    obtain ⟨v, hv, hg⟩ := h.op enc w base spare held fuel cs x hx
    exact ⟨g v, by show k.K w (f (g v)) cs; rw [hfg]; exact hv, by rw [hfg]; exact hg⟩
theorem opens_imp {α : Type} {k : Kd α} {G G' : α → Prop} (h : Opens P t k G) (hg : ∀ x, G x → G' x) : Opens P t k G' where
  sz := h.sz
  op := fun enc w base spare held fuel cs x hx => by
    obtain ⟨v, hv, hh⟩ := h.op enc w base spare held fuel cs x hx
    exact ⟨v, hv, hg v hh⟩
end Go.Proofs.YtlecpdpdcocibaaDoorOpen
set_option linter.unusedVariables false
namespace Go.Proofs.YtlecpdpdcocibaaDoor.fnExactWriteCode.Pure
open Go.RowKit Go.Proofs.YtlecpdpdcocibaaDoorW.PrintWords Go.Proofs.YtlecpdpdcocibaaDoorW.PrintLast Go.Proofs.YtlecpdpdcocibaaDoor.P Go.Proofs.YtlecpdpdcocibaaDoorEv
theorem pure_FnExactWriteCode : ∀ (l0_0 : List S127), (l0_0.length ≤ maxLen ∧ ∀ y ∈ l0_0, g127 y) → ∃ k, laws_FnExactWriteCode.f k l0_0 = some true := by
  intro l0_0 h0
  exact ⟨0, if_pos (h0)⟩
end Go.Proofs.YtlecpdpdcocibaaDoor.fnExactWriteCode.Pure
namespace Go.Proofs.YtlecpdpdcocibaaDoor.fnExactWriteCode
open Go.ChangeShapes Go.WideShapes Go.ChangeAt Go.RowKit Go.Proofs.YtlecpdpdcocibaaDoorW.PrintWords Go.Proofs.YtlecpdpdcocibaaDoorOpen Go.Proofs.YtlecpdpdcocibaaDoor.P
open Go.ChangeMaps (open_string shut_string)
set_option linter.unusedVariables false
set_option linter.unusedSimpArgs false
theorem own : ownKnob Tryd.prog.godebug = none := by kernel_rfl
theorem laidOut : laidOutB Tryd.prog = true := by kernel_rfl
theorem gPow : Tryd.prog.globalNamed (Rows.fnExactWriteCodeRow.laid.map (·.1))[2]! = some 0 := by kernel_rfl
theorem tPow : (Tryd.prog.globals[0]?).map (·.type) = some 198 := by kernel_rfl
theorem door_met (os : Os) (args : Array Value) : laidMetH Tryd.prog Rows.fnExactWriteCodeRow.laid ((World.doorLaid Tryd.prog 24 os).forCall (fun _ _ => 0) ⟨#[], args, []⟩).memory :=
  laidMetH_of_parts3 (fuel := 8) (laidMet_of_run' 8 (by kernel_rfl) (by kernel_rfl)) (by kernel_rfl) (by kernel_rfl)
theorem tab_of {W : World} (h : laidMetH Tryd.prog Rows.fnExactWriteCodeRow.laid W) : Tab W := by
  rw [MakeChecks.laidMetH_plain _ _ _ (by kernel_rfl)] at h
  obtain ⟨ps, ⟨g0, t0, cs0, f0, p0, q0, hg0, ht0, hv0, hd0, ⟨g1, t1, cs1, f1, p1, q1, hg1, ht1, hv1, hd1, ⟨g2, t2, cs2, f2, p2, q2, hg2, ht2, hv2, hd2, _, _⟩, _⟩, _⟩, _⟩ := h
  obtain rfl := Option.some.inj (gPow.symm.trans hg2)
  obtain rfl := Option.some.inj (tPow.symm.trans ht2)
  show W.var? Tryd.prog _ = some _
  rw [hv2, ← Lib.cells_of_tab (k := .u64) (zs := Lib.pow10Tab) Tryd.underlying198 Tryd.underlying179 (by kernel_rfl) (by kernel_rfl) hd2]
theorem o183 : Opens Tryd.prog 183 k183 g183 := opens_imp (opens_iso (fun x : S183 => (x.f0, x.f1, x.f2)) (fun p => ⟨p.1, p.2.1, p.2.2⟩) (fun _ => rfl) (opens_struct Tryd.underlying183 (by kernel_rfl) (fields_cons (opens_int Tryd.underlying2 (by kernel_rfl)) (fields_cons (opens_int Tryd.underlying2 (by kernel_rfl)) (fields_one (opens_int Tryd.underlying2 (by kernel_rfl))))))) (fun _ h => h)
theorem o127 : Opens Tryd.prog 127 k127 g127 := opens_imp (opens_iso (fun x : S127 => (x.f0, x.f1, x.f2)) (fun p => ⟨p.1, p.2.1, p.2.2⟩) (fun _ => rfl) (opens_struct Tryd.underlying127 (by kernel_rfl) (fields_cons (opens_int Tryd.underlying2 (by kernel_rfl)) (fields_cons (opens_slice Tryd.underlying125 (by kernel_rfl) o183) (fields_one (opens_int Tryd.underlying2 (by kernel_rfl))))))) (fun _ h => h)
theorem lifted (os : Os) (started : os.Started) (H : Type) (enc : TypeId × Value → H) :
    ReturnsInHanded {} Tryd.checked os 3 .any (fun w args => (Rows.fnExactWriteCodeSpec.pre enc Tryd.prog Tryd.f3 [] false w args ∧ laidMetH Tryd.prog Rows.fnExactWriteCodeRow.laid w) ∧ sizedMet enc Tryd.prog Tryd.f3 (OpenSpec.ofChange Rows.fnExactWriteCodeSpec) false w args) (Rows.fnExactWriteCodeSpec.post enc Tryd.prog Tryd.f3 false true false false) := by
  refine returnsInHanded_of_change_and (C := Tryd.checked) (X := fun w _ => laidMetH Tryd.prog Rows.fnExactWriteCodeRow.laid w) (fun _ _ _ hh h => h.of_heap hh) own started (by kernel_rfl) Tryd.func3
    (ChangeSpec.witness_shaped (enc := enc) (C := Tryd.checked) (os := os) (X := fun w _ => laidMetH Tryd.prog Rows.fnExactWriteCodeRow.laid w) false (World.doorLaid Tryd.prog 24 os) #[.agg #[.slice none 0 0]] 8 rfl (World.shaped_of_RefB (by kernel_rfl) (by kernel_rfl)) (by kernel_rfl) (by kernel_rfl) (by kernel_rfl) (door_met os _)) ?_
  intro W base args ds gs before hval0 hW _ hsz0 hL _
  have ht := tab_of hL
  have hsz : (DataW.weightsEach Tryd.prog (Tryd.f3.params.toList ++ Rows.fnExactWriteCodeSpec.plain.varTypes Tryd.prog) (ds ++ gs)).all (· ≤ reachBytes) = true := hsz0
  have hval : ∀ (j : Nat) t v, Tryd.f3.params[j]? = some t → args[j]? = some v → Value.okWide Tryd.prog W .any base t v := hval0
  have hW' := hW
  obtain ⟨p, q, hA0, hV, rfl, hfz, hnd⟩ := hW
  have hA : DataW.TrodAll enc Tryd.prog W 0 (fun _ => true) true Tryd.f3.params.toList args.toList ds p := hA0
  rw [Tryd.params3] at hA hval hsz
  obtain ⟨v0, vs0, d0, ds0, p0, q0, hargs, rfl, rfl, h0, r0⟩ := trodAll_cons hA
  obtain ⟨rfl, rfl, rfl⟩ := trodAll_nil r0
  obtain rfl : args = #[v0] := by cases args; simp_all
  obtain ⟨rfl, rfl⟩ := trodVars_none hV
  have k0' := h0
  have lt0 : ∀ x ∈ p0, x.block < W.heap.size := by obtain ⟨m, hm⟩ := k0'; exact DataW.trod_lt m _ _ _ hm
  obtain ⟨cs0, rfl, hn0⟩ := okWide_struct Tryd.underlying24 (hval 0 24 v0 rfl rfl)
  obtain ⟨fuel0, hf0⟩ := h0
  have hf0' : DataW.trod enc Tryd.prog W 0 (fun _ => true) true fuel0 24 cs0.toList = some (d0, p0) := hf0
  obtain ⟨x0, hK0, hG0⟩ := (opens_struct Tryd.underlying24 (by kernel_rfl) (fields_one (opens_slice Tryd.underlying22 (by kernel_rfl) o127))).op enc W 0 (fun _ => true) true fuel0 _ _ hf0'
  have hG0' := hG0
  obtain ⟨A0_0, c0_0, hs0_0, hl0_0, hC0_0⟩ := hK0
  obtain rfl : cs0 = #[.slice A0_0 x0.length c0_0] := by
    apply Array.ext'
    simp only [hs0_0, List.cons_append, List.nil_append]
  clear hA0 hval0 hsz0 hsz
  obtain ⟨k, hk⟩ := Pure.pure_FnExactWriteCode _ hG0'
  refine (laws_FnExactWriteCode.calls k A0_0 c0_0 _ true W ht hC0_0 hl0_0 hk).mono fun e W' ⟨he, bel0⟩ => ?_
  have bel : Below W.heap.size W W' := bel0
  subst he
  exact ⟨_, rfl, _, _, _, [], _, [], hW', trodAll_mk1 (shut_bool Tryd.underlying4 _), (trodAll_cons_mk (Below.trod laidOut (by kernel_rfl) (of_decide_eq_true (by kernel_rfl)) k0' bel lt0) trodAll_mk0), rfl, bel.frame _, fun h => by cases h⟩
theorem over : Rows.fnExactWriteCodeRow.holds Tryd.pinned (OpenSpec.ofChange Rows.fnExactWriteCodeSpec) :=
  OpenClaim.holds_of_wide 3 Tryd.f3 rfl rfl rfl rfl rfl rfl rfl ⟨rfl, rfl, rfl, rfl, rfl⟩ rfl rfl rfl rfl rfl (by kernel_rfl) Tryd.func3 (by kernel_rfl)
    (of_decide_eq_true (by kernel_rfl)) (by unfold Func.isWrapper; first | (rw [if_pos (by decide +kernel)]; kernel_rfl) | (rw [if_neg (by decide +kernel)]; exact ⟨rfl, rfl⟩))
    (fun os started H enc _ => lifted os started H enc)
theorem proved : Rows.FnExactWriteCodeSaid := over
#print axioms proved
theorem tied : Rows.FnExactWriteCodeCardSaid :=
  Claim7.holds_tied_plain_at .later [] [.data, .data, .data] true (true, "b2c5617786120ea8007ea3781f6028f28a945e8f1cbbd49eae0c07936bfda610") false
    proved (fun _ h => by cases h) (by kernel_rfl) (fun _ h => by cases h) fnExactWriteCode_row_tie rfl ⟨rfl, rfl⟩ (by kernel_rfl) rfl
    (fun f fn hf hfn => by
      obtain rfl : f = 3 := Option.some.inj ((show Tryd.prog.funcNamed Rows.fnExactWriteCodeRow.func = some 3 by kernel_rfl).symm.trans hf) |>.symm
      obtain rfl : fn = Tryd.f3 := (Option.some.inj (Tryd.func3.symm.trans hfn)).symm
      exact ⟨by kernel_rfl, fun j t ht => by
        rw [Tryd.params3] at ht
        have hm : t ∈ [24] := by simpa using Array.mem_of_getElem? ht
        have hall : ([24].all fun u => !Tryd.prog.wantsStandIn u) = true := by kernel_rfl
        exact (show Tryd.prog.wantsStandIn t = false by simpa using List.all_eq_true.1 hall t hm)⟩)
    (by kernel_rfl)
#print axioms tied
end Go.Proofs.YtlecpdpdcocibaaDoor.fnExactWriteCode
namespace Go.Proofs.YtlecpdpdcocibaaDoor
theorem fnExactWriteCode_holds : Rows.FnExactWriteCodeCardSaid := fnExactWriteCode.tied
end Go.Proofs.YtlecpdpdcocibaaDoor
