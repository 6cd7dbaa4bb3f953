/- The law FnExactGenCode holds for every call: part 3 of 3 of the proof (the row). Conditions: none beyond what the given row says. -/
import Derived.Test.YtlecpdpdcocibaaMFnExactGenCode0
import Derived.Test.YtlecpdpdcocibaaMFnExactGenCode1
import Derived.ChangeSlices
import Derived.ChangeArms
import Derived.SizedLaws
import Derived.Test.YtlecpdpdcocibaaRows
import Derived.WalkKit
import Derived.ProofKit
import Derived.OpenShut
import Derived.ShutString
import Derived.ChangeOld
import Derived.Below
set_option maxHeartbeats 16000000
set_option maxRecDepth 100000
namespace Go.Proofs.Ytlecpdpdcocibaa.P
open Go.RowKit Go.Shelf Go.Proofs.YtlecpdpdcocibaaW.PrintWords Go.Proofs.YtlecpdpdcocibaaW.PrintLast Go.Proofs.YtlecpdpdcocibaaW.PrintMore Go.Proofs.YtlecpdpdcocibaaEv
set_option linter.unusedVariables false
set_option linter.unusedSimpArgs false
theorem addZ_ (g k : Nat) : Go.Addr.add ⟨g, 0, none⟩ k = ⟨g, k, none⟩ := by
  unfold Go.Addr.add
  split <;> simp_all
theorem infoArm_ : (Try.prog.info? 81).map (fun i => (i.zero, i.size, i.bytes)) = some (some (.agg #[(.int .i64 0), (.int .i64 0), (.int .i64 0)]), 3, 24) := by kernel_rfl
def OkAt (l0 : List Int) (l1 : List (List Int)) (l2 : List Int) (s : Int) : Prop := l0.length = 256 ∧ (0 ≤ s ∧ s < l1.length ∧ s < l2.length) ∧ ∀ b : Nat, b < 256 → 0 ≤ rd l0 (b : Int) ∧ rd l0 (b : Int) < ((rd_L1 l1 s).length : Int)
theorem blockOf_hand (A0 A1 A2 : Option Addr) (c0 c1 c2 : Nat) (l0 : List Int) (l1 : List (List Int)) (l2 : List Int) (s e : Int) (hs : OkAt l0 l1 l2 s) (hrow : ∀ x ∈ rowG l0 l1 s 256, 0 ≤ x ∧ x ≤ 1000000) (he : MostOf (rowG l0 l1 s 256) e) (w : World) (hr0 : Kd.C (Kd.int .i64) w A0 l0.length l0) (hc0 : l0.length ≤ c0) (hr1 : Kd.C (Kd.slice 2 (Kd.int .i64)) w A1 l1.length l1) (hc1 : l1.length ≤ c1) (hr2 : Kd.C (Kd.int .i64) w A2 l2.length l2) (hc2 : l2.length ≤ c2) :
    Calls Try.prog 44 #[.agg #[.slice A0 l0.length c0, .slice A1 l1.length c1, .slice A2 l2.length c2], .int .i64 s] w fun en w' => ∃ v1, en = .returned (.agg #[.int .i64 (rd l2 s), v1, .int .i64 e]) ∧ Kd.R k81 81 w' w.heap.size (fun _ => True) v1 (armsUp e (rowG l0 l1 s 256) 256) ∧ Below w.heap.size w w' := by
  have HR0 := q_ hr0; have HC0 := q_ hc0; have HR1 := q_ hr1; have HC1 := q_ hc1; have HR2 := q_ hr2; have HC2 := q_ hc2; have HB := q_ (Below.refl w.heap.size w)
  have HRW := q_ hrow; have HE := q_ he; have HS := q_ hs
  have T0 : J0 True := ⟨trivial⟩; have T1 : J0 True := ⟨trivial⟩; have T2 : J0 True := ⟨trivial⟩
  obtain ⟨h256, ⟨hs0, hs1, hs2⟩, hstep⟩ := hs
  have H256 := q_ h256
  clear hr0 hc0 hr1 hc1 hr2 hc2 hrow he h256
  go_enter Try.func44, Try.ntmps44
  go_wp2_with (first
    | ((with_reducible refine gate_dst (N := 2) rfl ?_); clear T0; refine bx_ 2 #[.slice A0 l0.length c0, .slice A1 l1.length c1, .slice A2 l2.length c2] 32 ?_; intro g1 hg w1 hbox hb; have BK1 := q_ hbox; have G1 := ge_ hg HB; replace HB := sb_ HB hb; clear hb hbox hg)
    | ((with_reducible refine gate_dst (N := 4) rfl ?_); clear T1; refine bx_ 4 #[.int .i64 0, .slice none 0 0, .int .i64 0] 79 ?_; intro gr hg w2 hbox hb; have BR := q_ hbox; have GR := ge_ hg HB; have NB := nl_ hg BK1; replace BK1 := lb_ BK1 hb; replace HB := sb_ HB hb; clear hb hbox hg)
    | ((with_reducible refine gate_dst (N := 11) rfl ?_); clear T2; refine Kd.R_lit (Kd.int .i64) _ 2 ?hg (N := 11) ?hd (xs := ([] : List Int)) (inner := []) (ok := fun _ => True) (okp := fun _ => True) ?hr ?hp (fun _ hk => hk) trivial (Below.refl _ _) (Nat.le_refl _) (by simp) ?_; (case hd => rfl); (case hg => rfl); (case hr => first | (go_simp; done) | (go_simp; rfl)); (case hp => exact (Reps.none _ _)); intro v3 w3 ho hb hgg_ hnew_; clear hgg_ hnew_; have HO := q_ (Kd.R_lower ho HB.o.size); replace BK1 := lb_ BK1 hb; replace BR := lb_ BR hb; replace HB := sb_ HB hb; clear hb ho))
  go_loopg [5, 12] 256 (fun gg v5 v12 wr => ∃ kk : Nat, v12 = .int .i64 kk ∧ kk ≤ 256 ∧ 256 - kk ≤ gg ∧ J0 (Kd.R (Kd.int .i64) 2 wr w.heap.size (fun _ => True) v5 (rowG l0 l1 s kk)) ∧ J0 (wr.heap[g1]? = some (.cells #[.slice A0 l0.length c0, .slice A1 l1.length c1, .slice A2 l2.length c2] 32)) ∧ J0 (wr.heap[gr]? = some (.cells #[.int .i64 0, .slice none 0 0, .int .i64 0] 79)) ∧ J0 (Below w.heap.size w wr))
  case atStart => exact ⟨0, rfl, by omega, by omega, HO, BK1, BR, HB⟩
  case round =>
    clear HO BK1 BR HB
    obtain ⟨kk, rfl, hkk, hgg, HO, BK1, BR, HB⟩ := hrel
    by_cases hlt : kk < 256
    · obtain ⟨A5, c5, rfl⟩ := Kd.R_slice HO.o
      have HLN := q_ (rowG_length l0 l1 s kk)
      obtain ⟨hb0, hb1⟩ := hstep kk hlt
      have hst : J0 (impl_Dfa_step.f l0 l1 l2 s (kk : Int) = some (rd (rd_L1 l1 s) (rd l0 (kk : Int)))) := ⟨by unfold impl_Dfa_step.f; have h256 := H256.o; rw [if_pos hs0, if_pos hs1, if_pos (by omega), if_pos (by omega), if_pos hb0, if_pos hb1]⟩
      have hsc := rowG_succ l0 l1 s kk
      generalize rd (rd_L1 l1 s) (rd l0 (kk : Int)) = y at *
      have HSC := q_ hsc
      have hltz : decide ((kk : Int) < 256) = true := decide_eq_true (by omega)
      obtain ⟨hz0, hz1, hz2, hf0, hf1, hf2⟩ := d3_ BK1
      clear hsc hb0 hb1
      go_wp2_with (first
        | (go_at_call 93; with_reducible refine (impl_Dfa_step.calls A0 c0 l0 A1 c1 l1 A2 c2 l2 s (kk : Int) y _ (Kd.C_below HR0.o (be_ HB.o)) HC0.o (Kd.C_below HR1.o (be_ HB.o)) HC1.o (Kd.C_below HR2.o (be_ HB.o)) HC2.o hst.o).mono ?_; rintro en w4 ⟨rfl, hb⟩; replace BK1 := lb_ BK1 hb; replace BR := lb_ BR hb; replace HO := q_ (Kd.R_below HO.o hb); replace HB := sb_ HB hb; clear hb)
        | ((with_reducible refine gate_builtin (b := .append) (xs := #[.tmp 15, .tmp 21]) rfl ?_); at_builtin; refine Kd.R_append (Kd.int .i64) (w0 := w) w.heap.size rfl (.tmp 15) (.tmp 21) 22 2 (.int .i64 0) 8 rfl Try.underlying22 info2 rfl (by decide) (by omega) (.slice A5 (rowG l0 l1 s kk).length c5) (rowG l0 l1 s kk) y [.int .i64 y] (fun _ => True) (fun _ => False) rfl rfl ?aP (fun _ hk => hk.elim) ?aF ?aO ?aB ?aS ?aL ?_; (case aP => exact rfl); (case aF => exact (fun _ _ => trivial)); (case aO => exact HO.o); (case aB => exact HB.o); (case aS => exact HB.o.size); (case aL => rw [HLN.o]; omega); intro v9 w9 ho hb hg hat; have HO2 := q_ ho; replace BK1 := q_ (blk_grown BK1.o hg (Kd.R_ne HO.o BK1.o (by decide))); replace BR := q_ (blk_grown BR.o hg (Kd.R_ne HO.o BR.o (by decide))); replace HB := q_ hb; clear HO; clear ho hb hg hat))
      go_roundg (256 - (kk + 1))
      case measure => omega
      case rel => exact ⟨kk + 1, by go_num, by omega, by omega, ⟨by rw [HSC.o]; exact HO2.o⟩, BK1, BR, HB⟩
    · have e : kk = 256 := by omega
      subst e
      have hltz : decide (((256 : Nat) : Int) < 256) = false := by decide
      obtain ⟨hz0, hz1, hz2, hf0, hf1, hf2⟩ := d3_ BK1
      clear hgg hkk hlt hstep
      have hln := rowG_length l0 l1 s 256
      obtain ⟨row, hrw⟩ : ∃ r, r = rowG l0 l1 s 256 := ⟨_, rfl⟩
      rw [← hrw] at HO HRW HE hln
      have HROW := q_ hrw
      clear hrw
      obtain ⟨A5, c5, rfl⟩ := Kd.R_slice HO.o
      have HLN := q_ hln; clear hln
      go_wp2_with fail
      clear hz0 hz1 hz2 hf0 hf1 hf2
      obtain ⟨ad2, e2, hx2⟩ := Kd.at_int HR2.o s hs0 hs2
      subst e2
      have HX2 := q_ hx2
      clear hx2
      have p0 := eq_true hs0; have q0 := eq_true hs2
      replace BK1 := q_ (blk_drew BK1.o); replace BR := q_ (blk_drew BR.o); replace HB := q_ (below_drew1 HB.o); replace HO := q_ (Kd.R_drew HO.o)
      refine start_ (n := 10) (S := fun w' => w'.cell? ⟨g1, 2, none⟩ = some (.slice (some ad2) l2.length c2) ∧ w'.cell? (ad2.add s.toNat) = some (.int .i64 (rd l2 s))) (ds := [9]) (bb 10 0) (by kernel_rfl) rfl rfl ⟨(blk_cell BK1.o 2).trans rfl, mv_ HB.o HX2.o⟩ (fun hS => ?_)
      generalize World.drew _ = wd at BK1 BR HB HO hS ⊢
      refine pk_ 0 24 1 ?_; refine tk_ 1 25 3 hS ?_; refine pk_ 2 26 7 ?_; refine pk_ 3 27 15 ?_; refine tk_ 4 28 31 hS ?_; refine pk_ 5 29 63 ?_
      refine join_ (σ := Nat) 1 (bb 10 511) (fun g7 => [(30, .int .i64 e), (31, .agg #[.int .i64 (rd l2 s), .slice none 0 0, .int .i64 e]), (7, .pointer (some ⟨g7, 0, none⟩))]) (fun g7 w' => Kd.R (Kd.int .i64) 2 w' w.heap.size (fun _ => True) (.slice A5 row.length c5) row ∧ w'.heap[g1]? = some (.cells #[.slice A0 l0.length c0, .slice A1 l1.length c1, .slice (some ad2) l2.length c2] 32) ∧ w'.heap[gr]? = some (.cells #[.int .i64 0, .slice none 0 0, .int .i64 0] 79) ∧ w'.heap[g7]? = some (.cells #[.int .i64 0, .slice none 0 0, .int .i64 0] 79) ∧ (gr ≠ g7 ∧ w.heap.size ≤ g7) ∧ Below w.heap.size w w') ?_ ?_
      rotate_left
      · intro hCont
        refine two_ (i := 6) (j := 8) (Ni := some 30) (Nj := some 7) (bb 10 127) (bb 10 319) rfl rfl rfl rfl (by kernel_rfl) (by decide) (by decide) (fun K hK => ?_) (fun K hK => ?_)
        · refine gs_ Try.func103 #[.slice A5 row.length c5] ?_
          with_reducible refine (mostOften_hand A5 c5 row _ (Kd.R_reads' HO.o).2.2 (by rw [HLN.o]; decide) HRW.o (by rw [HLN.o]; decide) e HE.o).mono ?_
          rintro en w7 ⟨rfl, hb⟩
          refine ⟨_, rfl, ?_⟩
          replace BK1 := lb_ BK1 hb; replace BR := lb_ BR hb; replace HO := q_ (Kd.R_below HO.o hb); replace HB := sb_ HB hb; clear hb
          refine hK.out _ _ ⟨(blk_cell BK1.o 2).trans rfl, mv_ HB.o HX2.o⟩ (fun hS => ?_)
          clear hK K; refine no_ (some 30) ?_; refine pk_ 7 31 255 ?_
          refine one_ (i := 8) (N := some 7) (bb 10 511) rfl rfl (by kernel_rfl) (by decide) (fun K hK => ?_)
          refine value_ (w1 := ?_) (v := ?_) (by rfl) rfl ?_ ?_
          rotate_left 2
          · go_simp
            constructor
            · rfl
            · rfl
          have hb : Below w7.heap.size w7 (w7.alloc (.cells #[.int .i64 0, .slice none 0 0, .int .i64 0] 79)) := below_alloc (Below.refl _ _) _
          have B7 := q_ (blk_new w7 (.cells #[.int .i64 0, .slice none 0 0, .int .i64 0] 79))
          have N7 : J0 (gr ≠ w7.heap.size ∧ w.heap.size ≤ w7.heap.size) := ⟨Nat.ne_of_lt (blk_lt BR.o), HB.o.size⟩
          replace BK1 := lb_ BK1 hb; replace BR := lb_ BR hb; replace HO := q_ (Kd.R_below HO.o hb); replace HB := sb_ HB hb
          refine hK.out _ _ ⟨(blk_cell BK1.o 2).trans rfl, mv_ HB.o HX2.o⟩ (fun hS => ?_)
          clear hK K hb; refine no_ (some 7) ?_
          generalize World.alloc _ (Obj.cells #[.int .i64 0, .slice none 0 0, .int .i64 0] 79) = wz at *
          exact norm_ (by simp only [putAll, Act.put, List.setIfInBounds_toArray, List.set_cons_zero, List.set_cons_succ]) (hCont _ _ ⟨HO.o, BK1.o, BR.o, B7.o, N7.o, HB.o⟩)
        · refine value_ (w1 := ?_) (v := ?_) (by rfl) rfl ?_ ?_
          rotate_left 2
          · go_simp
            constructor
            · rfl
            · rfl
          have hb : Below wd.heap.size wd (wd.alloc (.cells #[.int .i64 0, .slice none 0 0, .int .i64 0] 79)) := below_alloc (Below.refl _ _) _
          have B7 := q_ (blk_new wd (.cells #[.int .i64 0, .slice none 0 0, .int .i64 0] 79))
          have N7 : J0 (gr ≠ wd.heap.size ∧ w.heap.size ≤ wd.heap.size) := ⟨Nat.ne_of_lt (blk_lt BR.o), HB.o.size⟩
          replace BK1 := lb_ BK1 hb; replace BR := lb_ BR hb; replace HO := q_ (Kd.R_below HO.o hb); replace HB := sb_ HB hb
          refine hK.out _ _ ⟨(blk_cell BK1.o 2).trans rfl, mv_ HB.o HX2.o⟩ (fun hS => ?_)
          clear hK K hb; refine no_ (some 7) ?_
          generalize World.alloc _ (Obj.cells #[.int .i64 0, .slice none 0 0, .int .i64 0] 79) = wz at *
          refine one_ (i := 6) (N := some 30) (bb 10 383) rfl rfl (by kernel_rfl) (by decide) (fun K hK => ?_)
          refine gs_ Try.func103 #[.slice A5 row.length c5] ?_
          with_reducible refine (mostOften_hand A5 c5 row _ (Kd.R_reads' HO.o).2.2 (by rw [HLN.o]; decide) HRW.o (by rw [HLN.o]; decide) e HE.o).mono ?_
          rintro en w7 ⟨rfl, hb⟩
          refine ⟨_, rfl, ?_⟩
          replace BK1 := lb_ BK1 hb; replace BR := lb_ BR hb; replace HO := q_ (Kd.R_below HO.o hb); replace B7 := lb_ B7 hb; replace HB := sb_ HB hb; clear hb
          refine hK.out _ _ ⟨(blk_cell BK1.o 2).trans rfl, mv_ HB.o HX2.o⟩ (fun hS => ?_)
          clear hK K; refine no_ (some 30) ?_; refine pk_ 7 31 511 ?_
          exact norm_ (by simp only [putAll, Act.put, List.setIfInBounds_toArray, List.set_cons_zero, List.set_cons_succ]) (hCont _ _ ⟨HO.o, BK1.o, BR.o, B7.o, N7.o, HB.o⟩)
      rintro g7 w8 ⟨h0_, h1_, h2_, h3_, h4_, h5_⟩
      clear BK1 BR HB HO hS
      have HO := q_ h0_; have BK1 := q_ h1_; have BR := q_ h2_; have B7 := q_ h3_; have N7 := q_ h4_; have HB := q_ h5_
      clear h0_ h1_ h2_ h3_ h4_ h5_
      obtain ⟨hy0, hy1, hy2, hyf0, hyf1, hyf2⟩ := d3_ B7
      refine norm_ (a' := ?_) ?_ ?_
      rotate_left
      · simp only [putAll, Act.put, List.setIfInBounds_toArray, List.set_cons_zero, List.set_cons_succ]
        rfl
      refine last_ (i := 9) (N := none) (bb 10 1023) rfl rfl (by kernel_rfl) (by decide) (fun K hK => ?_)
      refine skip_ (w1 := ?_) (by rfl) rfl ?_ ?_
      rotate_left
      · go_simp
        rfl
      refine hK.out _ _ ?_
      clear hK K
      refine done_ (by kernel_rfl) ?_
      have B7b := q_ (fin3_ (a := .int .i64 (rd l2 s)) (b := .slice none 0 0) (c := .int .i64 e) B7.o)
      have BRb := q_ (finO_ (a := .int .i64 (rd l2 s)) (b := .slice none 0 0) (c := .int .i64 e) BR.o N7.o.1)
      have HOb := q_ (fin3R_ (a := .int .i64 (rd l2 s)) (b := .slice none 0 0) (c := .int .i64 e) (Kd.R_types HO.o B7.o (by decide)) (fun _ hk => hk.2))
      replace HB := q_ (finB_ (a := .int .i64 (rd l2 s)) (b := .slice none 0 0) (c := .int .i64 e) HB.o N7.o.2)
      clear B7 BR HO BK1 hy0 hy1 hy2 hyf0 hyf1 hyf2
      generalize ((w8.setCell ⟨g7, 0, none⟩ (.int .i64 (rd l2 s))).setCell ⟨g7, 1, none⟩ (.slice none 0 0)).setCell ⟨g7, 2, none⟩ (.int .i64 e) = w10 at *
      have B7 := B7b; have BR := BRb; have HO := HOb
      clear B7b BRb HOb
      go_wp2
      go_loopg [34] 256 (fun gg v34 wr => ∃ (kk : Nat) (v1 : Value), v34 = .int .i64 kk ∧ kk ≤ 256 ∧ 256 - kk ≤ gg ∧ J0 (wr.heap[g7]? = some (.cells #[.int .i64 (rd l2 s), v1, .int .i64 e] 79)) ∧ J0 (Kd.R k81 81 wr w.heap.size (fun _ => True) v1 (armsUp e row kk)) ∧ J0 (Kd.R (Kd.int .i64) 2 wr w.heap.size (fun _ => True) (.slice A5 row.length c5) row) ∧ J0 (wr.heap[gr]? = some (.cells #[.int .i64 0, .slice none 0 0, .int .i64 0] 79)) ∧ J0 (Below w.heap.size w wr))
      case atStart => exact ⟨0, _, rfl, by omega, by omega, B7, ⟨Kd.R_nil _ _ _ _ _⟩, HO, BR, HB⟩
      case round =>
        clear B7 BR HO HB
        obtain ⟨kk, v1, rfl, hkk, hgg, B7, HA, HO, BR, HB⟩ := hrel
        obtain ⟨A7, c7, rfl⟩ := Kd.R_slice HA.o
        by_cases hlt : kk < 256
        · have hltz : decide ((kk : Int) < (row.length : Int)) = true := by rw [HLN.o]; exact decide_eq_true (by omega)
          have hk0 : (0 : Int) ≤ (kk : Int) := by omega
          have hkr : (kk : Int) < (row.length : Int) := by rw [HLN.o]; omega
          obtain ⟨ad5, e5, hx5⟩ := Kd.at_int (Kd.R_reads' HO.o).2.2 (kk : Int) hk0 hkr
          subst e5
          rw [Int.toNat_natCast] at hx5
          have hup : armsUp e row (kk + 1) = armStep e (armsUp e row kk) (kk : Int) (rd row (kk : Int)) := rfl
          have HAL := q_ (armsUp_length e row kk)
          generalize hu2 : armsUp e row (kk + 1) = arms2 at *
          have H2U := q_ hu2; clear hu2
          generalize armsUp e row kk = arms at *
          generalize rd row (kk : Int) = x at *
          have hal := HAL.o
          have hw : IntKind.i64.wrap ((arms.length : Int) - 1) = (arms.length : Int) - 1 := by rw [i64_w]; exact wrap_id (by omega) (by omega)
          obtain ⟨hy0, hy1, hy2, hyf0, hyf1, hyf2⟩ := d3_ B7
          have HUP := q_ hup
          clear hup hal
          by_cases h1 : x = e
          · have d1 : (x == e) = true := beq_iff_eq.mpr h1
            have e2 : J0 (arms2 = arms) := ⟨by rw [HUP.o]; unfold armStep; rw [if_pos h1]⟩
            clear h1 HUP
            go_wp2
            go_roundg (256 - (kk + 1))
            case measure => omega
            case rel => exact ⟨kk + 1, _, by go_num, by omega, by omega, B7, ⟨by rw [H2U.o, e2.o]; exact HA.o⟩, HO, BR, HB⟩
          have d1 : (x == e) = false := beq_eq_false_iff_ne.mpr h1
          by_cases h2 : arms.length = 0
          · obtain rfl : arms = [] := List.length_eq_zero_iff.1 h2
            have e2 : J0 (arms2 = ([] : List S81) ++ [⟨(kk : Int), (kk : Int), x⟩]) := ⟨by rw [HUP.o]; unfold armStep; rw [if_neg h1, if_neg (by omega)]⟩
            clear h1 HUP h2 hw
            go_wp2_with (first | ((with_reducible refine gate_builtin (b := .append) (xs := #[.tmp 44, .tmp 49]) rfl ?_); at_builtin; go_loud (refine Kd.R_append k81 (w0 := w) w.heap.size rfl (.tmp 44) (.tmp 49) 77 81 (.agg #[(.int .i64 0), (.int .i64 0), (.int .i64 0)]) 24 rfl Try.underlying77 infoArm_ rfl (by decide) (by omega) (.slice A7 ([] : List S81).length c7) ([] : List S81) (⟨(kk : Int), (kk : Int), x⟩ : S81) [.int .i64 (kk : Int), .int .i64 (kk : Int), .int .i64 x] (fun _ => True) (fun _ => False) rfl rfl ?aP (fun _ hk => hk.elim) ?aF ?aO ?aB ?aS ?aL ?_; (case aP => exact k81_mkM _ _ _ (⟨(kk : Int), (kk : Int), x⟩ : S81)); (case aF => exact (fun _ _ => trivial)); (case aO => exact HA.o); (case aB => exact HB.o); (case aS => exact HB.o.size); (case aL => decide); intro v9 w9 ho hb hg hat; obtain ⟨A9, c9, e9⟩ := Kd.R_slice ho; subst e9; have hln : (([] : List S81) ++ [(⟨(kk : Int), (kk : Int), x⟩ : S81)]).length = 1 := rfl; rw [hln] at ho ⊢; have HA2 := q_ ho; have HO2 := q_ (Kd.R_over' HO.o (Kd.R_typed HA.o) (by decide) hg); replace B7 := q_ (blk_grown B7.o hg (Kd.R_ne HA.o B7.o (by decide))); replace BR := q_ (blk_grown BR.o hg (Kd.R_ne HA.o BR.o (by decide))); replace HB := q_ hb; clear hy0 hy1 hy2 hyf0 hyf1 hyf2; obtain ⟨hy0, hy1, hy2, hyf0, hyf1, hyf2⟩ := d3_ B7; clear ho hb hg hat hln)))
            go_roundg (256 - (kk + 1))
            case measure => omega
            case rel => exact ⟨kk + 1, _, by go_num, by omega, by omega, ⟨blk_put B7.o 1 _ rfl⟩, ⟨by rw [H2U.o, e2.o]; exact Kd.R_set HA2.o B7.o (by decide) 1 _⟩, ⟨Kd.R_set HO2.o B7.o (by decide) 1 _⟩, ⟨blk_far BR.o N7.o.1 _⟩, ⟨below_set HB.o N7.o.2⟩⟩
          · have hpos : 0 < arms.length := by omega
            obtain ⟨ad7, e7, hc0, hc1, hc2⟩ := at_T81 (Kd.R_reads' HA.o).2.2 ((arms.length : Int) - 1) (by omega) (by omega)
            subst e7
            rw [show ((arms.length : Int) - 1).toNat = arms.length - 1 by omega] at hc0 hc1 hc2
            have p1 := eq_true (show (0 : Int) ≤ (arms.length : Int) - 1 by omega); have q1 := eq_true (show (arms.length : Int) - 1 < (arms.length : Int) by omega)
            have d2 : decide ((arms.length : Int) - 1 ≥ 0) = true := decide_eq_true (by omega)
            have hw2 : IntKind.i64.wrap ((kk : Int) - 1) = (kk : Int) - 1 := by rw [i64_w]; exact wrap_id (by omega) (by omega)
            have hup := HUP.o
            unfold armStep at hup
            rw [if_neg h1] at hup
            clear HUP
            generalize hyy : rd_T81 arms ((arms.length : Int) - 1) = y at *
            have HYY := q_ hyy; clear hyy
            by_cases h3 : y.f1 = (kk : Int) - 1
            rotate_left
            · have d3 : (y.f1 == (kk : Int) - 1) = false := beq_eq_false_iff_ne.mpr h3
              have e2 : J0 (arms2 = arms ++ [⟨(kk : Int), (kk : Int), x⟩]) := ⟨by rw [hup, if_neg (by rintro ⟨_, h, _⟩; exact h3 h)]⟩
              clear h1 h2 h3 hup
              go_wp2_with (first | ((with_reducible refine gate_builtin (b := .append) (xs := #[.tmp 44, .tmp 49]) rfl ?_); at_builtin; go_loud (refine Kd.R_append k81 (w0 := w) w.heap.size rfl (.tmp 44) (.tmp 49) 77 81 (.agg #[(.int .i64 0), (.int .i64 0), (.int .i64 0)]) 24 rfl Try.underlying77 infoArm_ rfl (by decide) (by omega) (.slice (some ad7) arms.length c7) arms (⟨(kk : Int), (kk : Int), x⟩ : S81) [.int .i64 (kk : Int), .int .i64 (kk : Int), .int .i64 x] (fun _ => True) (fun _ => False) rfl rfl ?aP (fun _ hk => hk.elim) ?aF ?aO ?aB ?aS ?aL ?_; (case aP => exact k81_mkM _ _ _ (⟨(kk : Int), (kk : Int), x⟩ : S81)); (case aF => exact (fun _ _ => trivial)); (case aO => exact HA.o); (case aB => exact HB.o); (case aS => exact HB.o.size); (case aL => have := HAL.o; omega); intro v9 w9 ho hb hg hat; obtain ⟨A9, c9, e9⟩ := Kd.R_slice ho; subst e9; have hln : (arms ++ [(⟨(kk : Int), (kk : Int), x⟩ : S81)]).length = arms.length + 1 := (by simp); rw [hln] at ho ⊢; have HA2 := q_ ho; have HO2 := q_ (Kd.R_over' HO.o (Kd.R_typed HA.o) (by decide) hg); replace B7 := q_ (blk_grown B7.o hg (Kd.R_ne HA.o B7.o (by decide))); replace BR := q_ (blk_grown BR.o hg (Kd.R_ne HA.o BR.o (by decide))); replace HB := q_ hb; clear hy0 hy1 hy2 hyf0 hyf1 hyf2; obtain ⟨hy0, hy1, hy2, hyf0, hyf1, hyf2⟩ := d3_ B7; clear ho hb hg hat hln)))
              go_roundg (256 - (kk + 1))
              case measure => omega
              case rel => exact ⟨kk + 1, _, by go_num, by omega, by omega, ⟨blk_put B7.o 1 _ rfl⟩, ⟨by rw [H2U.o, e2.o]; exact Kd.R_set HA2.o B7.o (by decide) 1 _⟩, ⟨Kd.R_set HO2.o B7.o (by decide) 1 _⟩, ⟨blk_far BR.o N7.o.1 _⟩, ⟨below_set HB.o N7.o.2⟩⟩
            by_cases h4 : y.f2 = x
            rotate_left
            · have d3 : (y.f1 == (kk : Int) - 1) = true := beq_iff_eq.mpr h3
              have d4 : (y.f2 == x) = false := beq_eq_false_iff_ne.mpr h4
              have e2 : J0 (arms2 = arms ++ [⟨(kk : Int), (kk : Int), x⟩]) := ⟨by rw [hup, if_neg (by rintro ⟨_, _, h⟩; exact h4 h)]⟩
              clear h1 h2 h3 h4 hup
              go_wp2_with (first | ((with_reducible refine gate_builtin (b := .append) (xs := #[.tmp 44, .tmp 49]) rfl ?_); at_builtin; go_loud (refine Kd.R_append k81 (w0 := w) w.heap.size rfl (.tmp 44) (.tmp 49) 77 81 (.agg #[(.int .i64 0), (.int .i64 0), (.int .i64 0)]) 24 rfl Try.underlying77 infoArm_ rfl (by decide) (by omega) (.slice (some ad7) arms.length c7) arms (⟨(kk : Int), (kk : Int), x⟩ : S81) [.int .i64 (kk : Int), .int .i64 (kk : Int), .int .i64 x] (fun _ => True) (fun _ => False) rfl rfl ?aP (fun _ hk => hk.elim) ?aF ?aO ?aB ?aS ?aL ?_; (case aP => exact k81_mkM _ _ _ (⟨(kk : Int), (kk : Int), x⟩ : S81)); (case aF => exact (fun _ _ => trivial)); (case aO => exact HA.o); (case aB => exact HB.o); (case aS => exact HB.o.size); (case aL => have := HAL.o; omega); intro v9 w9 ho hb hg hat; obtain ⟨A9, c9, e9⟩ := Kd.R_slice ho; subst e9; have hln : (arms ++ [(⟨(kk : Int), (kk : Int), x⟩ : S81)]).length = arms.length + 1 := (by simp); rw [hln] at ho ⊢; have HA2 := q_ ho; have HO2 := q_ (Kd.R_over' HO.o (Kd.R_typed HA.o) (by decide) hg); replace B7 := q_ (blk_grown B7.o hg (Kd.R_ne HA.o B7.o (by decide))); replace BR := q_ (blk_grown BR.o hg (Kd.R_ne HA.o BR.o (by decide))); replace HB := q_ hb; clear hy0 hy1 hy2 hyf0 hyf1 hyf2; obtain ⟨hy0, hy1, hy2, hyf0, hyf1, hyf2⟩ := d3_ B7; clear ho hb hg hat hln)))
              go_roundg (256 - (kk + 1))
              case measure => omega
              case rel => exact ⟨kk + 1, _, by go_num, by omega, by omega, ⟨blk_put B7.o 1 _ rfl⟩, ⟨by rw [H2U.o, e2.o]; exact Kd.R_set HA2.o B7.o (by decide) 1 _⟩, ⟨Kd.R_set HO2.o B7.o (by decide) 1 _⟩, ⟨blk_far BR.o N7.o.1 _⟩, ⟨below_set HB.o N7.o.2⟩⟩
            · have d3 : (y.f1 == (kk : Int) - 1) = true := beq_iff_eq.mpr h3
              have d4 : (y.f2 == x) = true := beq_iff_eq.mpr h4
              have e2 : J0 (arms2 = arms.set (arms.length - 1) ⟨y.f0, (kk : Int), y.f2⟩) := ⟨by rw [hup, if_pos ⟨hpos, h3, h4⟩]⟩
              have hw3 : IntKind.i64.wrap (y.f1 + 1) = (kk : Int) := by rw [h3, show (kk : Int) - 1 + 1 = kk by omega, i64_w]; exact wrap_id (by omega) (by omega)
              obtain ⟨g8, cap8, hv, hg8, _, _⟩ := Kd.R_form HA.o hpos
              obtain rfl : ad7 = ⟨g8, 0, none⟩ := by injection hv with h; injection h
              obtain ⟨cs, hcl, hM, hcc, hfr⟩ := Kd.R_elem HA.o z81 ((arms.length : Int) - 1) (by omega) (by omega)
              have hM : (k81).M wr w.heap.size (fun k => True ∧ k ≠ g8) y cs := by rw [← HYY.o]; exact hM
              obtain rfl := k81_openM hM
              have HSG := q_ (Kd.R_seg HA.o ((arms.length : Int) - 1) (by omega) (by omega) (seg := [.int .i64 (kk : Int)]) (j := 1) hcl hcc (show 1 + 1 ≤ 3 by decide) (x' := (⟨y.f0, (kk : Int), y.f2⟩ : S81)) (k81_mkM wr w.heap.size (fun k => True ∧ k ≠ g8) (⟨y.f0, (kk : Int), y.f2⟩ : S81)) (fun _ hk => hk))
              have hc1' : wr.cell? ⟨g8, (arms.length - 1) * 3 + 1, none⟩ = some (.int .i64 y.f1) := by rw [addZ_] at hc1; exact hc1
              have hc2' : wr.cell? ⟨g8, (arms.length - 1) * 3 + 2, none⟩ = some (.int .i64 y.f2) := by rw [addZ_] at hc2; exact hc2
              have hf : wr.frozen? ⟨g8, (arms.length - 1) * 3 + 1, none⟩ = false := by have h := hfr 1; rwa [show ((arms.length : Int) - 1).toNat = arms.length - 1 by omega] at h
              have G8 := q_ hg8
              clear h1 h2 h3 h4 hup hv hg8 hM hcc hfr hcl hc0 hc1 hc2
              go_wp2
              go_roundg (256 - (kk + 1))
              case measure => omega
              case rel =>
                obtain ⟨hs1_, hs2_⟩ := HSG.o
                rw [show ((arms.length : Int) - 1).toNat = arms.length - 1 by omega] at hs1_ hs2_
                exact ⟨kk + 1, _, by go_num, by omega, by omega, ⟨blk_grown B7.o hs2_ (Kd.R_ne HA.o B7.o (by decide))⟩, ⟨by rw [H2U.o, e2.o]; exact hs1_⟩, ⟨Kd.R_over' HO.o (Kd.R_typed HA.o) (by decide) hs2_⟩, ⟨blk_grown BR.o hs2_ (Kd.R_ne HA.o BR.o (by decide))⟩, ⟨below_set HB.o G8.o⟩⟩
        · have e1 : kk = 256 := by omega
          subst e1
          obtain ⟨hy0, hy1, hy2, hyf0, hyf1, hyf2⟩ := d3_ B7; obtain ⟨hr0, hr1, hr2, hrf0, hrf1, hrf2⟩ := d3_ BR
          have hgr : J0 (w.heap.size ≤ gr) := GR
          have hltz : decide ((256 : Int) < (row.length : Int)) = false := by rw [HLN.o]; decide
          clear hgg hkk hlt
          go_wp2
          refine bodyPost_ret (results_cell_row rfl _ _ gr 79 #[.int .i64 (rd l2 s), .slice A7 (armsUp e row 256).length c7, .int .i64 e] (0, 0) _ rfl (fin3_ BR.o) Try.underlying79 rfl (by kernel_rfl)) rfl ?_
          rw [← HROW.o]
          exact ⟨_, rfl, fin3R_ (Kd.R_types HA.o BR.o (by decide)) (fun _ hk => hk.2), finB_ HB.o hgr.o⟩
theorem infoCBlock_ : (Try.prog.info? 79).map (fun i => (i.zero, i.size, i.bytes)) = some (some (.agg #[(.int .i64 0), (.slice none 0 0), (.int .i64 0)]), 3, 40) := by kernel_rfl
theorem dfaB_eq (l0 : List Int) (l1 : List (List Int)) (l2 : List Int) : (decide (1 ≤ (l1.length : Int) ∧ (l1.length : Int) ≤ 1000) && (decide ((l2.length : Int) = l1.length) && ((l2.all fun x => decide (-1 ≤ x ∧ x ≤ 39)) && ((blkI l0).2 && l1.all (rowOk (blkI l0).1 l1.length))))) = dfaB l0 l1 l2 := by
  unfold dfaB blkI
  cases blk l0 0 with
  | none => rfl
  | some m =>
    have : ((l0.length : Int) == 256) = decide (l0.length = 256) := by
      by_cases h : l0.length = 256
      · rw [decide_eq_true h]; simp [h]
      · rw [decide_eq_false h]; simp; omega
    rw [this]
    rfl
theorem DfaI_quiet {A0 A1 A2 : Option Addr} {c0 c1 c2 : Nat} {l0 : List Int} {l1 : List (List Int)} {l2 : List Int} (k : Nat) (hk : impl_blocksOk.f k l0 = some (blkI l0)) (w : World) (hr0 : Kd.C (Kd.int .i64) w A0 l0.length l0) (hc0 : l0.length ≤ c0) (hr1 : Kd.C (Kd.slice 2 (Kd.int .i64)) w A1 l1.length l1) (hc1 : l1.length ≤ c1) (hr2 : Kd.C (Kd.int .i64) w A2 l2.length l2) (hc2 : l2.length ≤ c2) :
    Calls Try.prog 37 #[.agg #[.slice A0 l0.length c0, .slice A1 l1.length c1, .slice A2 l2.length c2]] w fun e w' => e = .returned (.bool (dfaB l0 l1 l2)) ∧ Below w.heap.size w w' := by
  rw [← dfaB_eq]
  exact DfaOk_hand A0 A1 A2 c0 c1 c2 l0 l1 l2 k (blkI l0).1 (blkI l0).2 hk w hr0 hc0 hr1 hc1 hr2 hc2
theorem GenCodeI_none (A0 A1 A2 : Option Addr) (c0 c1 c2 : Nat) (l0 : List Int) (l1 : List (List Int)) (l2 : List Int) (k : Nat) (hk : impl_blocksOk.f k l0 = some (blkI l0)) (hno : dfaB l0 l1 l2 = false) (w : World) (hr0 : Kd.C (Kd.int .i64) w A0 l0.length l0) (hc0 : l0.length ≤ c0) (hr1 : Kd.C (Kd.slice 2 (Kd.int .i64)) w A1 l1.length l1) (hc1 : l1.length ≤ c1) (hr2 : Kd.C (Kd.int .i64) w A2 l2.length l2) (hc2 : l2.length ≤ c2) :
    Calls Try.prog 11 #[.agg #[.slice A0 l0.length c0, .slice A1 l1.length c1, .slice A2 l2.length c2]] w fun e w' => e = .returned (.tuple #[.agg #[.slice none 0 0], .bool false]) ∧ Below w.heap.size w w' := by
  have HK := q_ hk; have HR0 := q_ hr0; have HC0 := q_ hc0; have HR1 := q_ hr1; have HC1 := q_ hc1; have HR2 := q_ hr2; have HC2 := q_ hc2; have HB := q_ (Below.refl w.heap.size w); have HN := q_ hno
  have T0 : J0 True := ⟨trivial⟩; have T1 : J0 True := ⟨trivial⟩
  clear hk hr0 hc0 hr1 hc1 hr2 hc2 hno
  go_enter Try.func11, Try.ntmps11
  go_wp2_with (first
    | ((with_reducible refine gate_dst (N := 1) rfl ?_); clear T0; refine bx_ 1 #[.slice A0 l0.length c0, .slice A1 l1.length c1, .slice A2 l2.length c2] 32 ?_; intro g1 hg w1 hbox hb; have BK1 := q_ hbox; have G1 := ge_ hg HB; replace HB := sb_ HB hb; clear hb hbox hg; obtain ⟨hz0, hz1, hz2, hf0, hf1, hf2⟩ := d3_ BK1)
    | ((with_reducible refine gate_dst (N := 2) rfl ?_); clear T1; refine bx_ 2 #[.slice none 0 0] 29 ?_; intro gr hg w2 hbox hb; have BR := q_ hbox; have GR := ge_ hg HB; have NB := nl_ hg BK1; replace BK1 := lb_ BK1 hb; replace HB := sb_ HB hb; clear hb hbox hg hz0 hz1 hz2 hf0 hf1 hf2; obtain ⟨hz0, hz1, hz2, hf0, hf1, hf2⟩ := d3_ BK1)
    | (go_at_call 37; (with_reducible refine (DfaI_quiet k HK.o _ (Kd.C_below HR0.o (be_ HB.o)) HC0.o (Kd.C_below HR1.o (be_ HB.o)) HC1.o (Kd.C_below HR2.o (be_ HB.o)) HC2.o).mono ?_); rw [HN.o]; rintro e w3 ⟨rfl, hb⟩; replace BR := lb_ BR hb; replace HB := sb_ HB hb; clear hb hz0 hz1 hz2 hf0 hf1 hf2; obtain ⟨hrz0, hrf0⟩ := d1_ BR))
  refine bodyPost_ret (results_ct rfl _ _ gr 29 #[.slice none 0 0] (0, 0) _ rfl (blk_put BR.o 0 _ rfl) Try.underlying29 rfl (by kernel_rfl)) rfl ?_
  exact ⟨rfl, below_set HB.o GR.o⟩
theorem GenCodeI_some (A0 A1 A2 : Option Addr) (c0 c1 c2 : Nat) (l0 : List Int) (l1 : List (List Int)) (l2 : List Int) (k : Nat) (hk : impl_blocksOk.f k l0 = some (blkI l0)) (hyes : dfaB l0 l1 l2 = true) (w : World) (hr0 : Kd.C (Kd.int .i64) w A0 l0.length l0) (hc0 : l0.length ≤ c0) (hr1 : Kd.C (Kd.slice 2 (Kd.int .i64)) w A1 l1.length l1) (hc1 : l1.length ≤ c1) (hr2 : Kd.C (Kd.int .i64) w A2 l2.length l2) (hc2 : l2.length ≤ c2) :
    Calls Try.prog 11 #[.agg #[.slice A0 l0.length c0, .slice A1 l1.length c1, .slice A2 l2.length c2]] w fun e w' => ∃ v, e = .returned (.tuple #[.agg #[v], .bool true]) ∧ Kd.S k79 79 w' w.heap.size (fun _ => True) v (codeG l0 l1 l2 l1.length) ∧ Below w.heap.size w w' := by
  obtain ⟨m, hD⟩ := dfaB_true hyes
  have HD := q_ hD
  have hrows := hD.rows
  have HK := q_ hk; have HR0 := q_ hr0; have HC0 := q_ hc0; have HR1 := q_ hr1; have HC1 := q_ hc1; have HR2 := q_ hr2; have HC2 := q_ hc2; have HB := q_ (Below.refl w.heap.size w); have HN := q_ hyes
  have T0 : J0 True := ⟨trivial⟩; have T1 : J0 True := ⟨trivial⟩; have T2 : J0 True := ⟨trivial⟩
  clear hk hr0 hc0 hr1 hc1 hr2 hc2 hyes hD
  go_enter Try.func11, Try.ntmps11
  go_upto_region 3 with (first
    | ((with_reducible refine gate_dst (N := 1) rfl ?_); clear T0; refine bx_ 1 #[.slice A0 l0.length c0, .slice A1 l1.length c1, .slice A2 l2.length c2] 32 ?_; intro g1 hg w1 hbox hb; have BK1 := q_ hbox; have G1 := ge_ hg HB; replace HB := sb_ HB hb; clear hb hbox hg; obtain ⟨hz0, hz1, hz2, hf0, hf1, hf2⟩ := d3_ BK1)
    | ((with_reducible refine gate_dst (N := 2) rfl ?_); clear T1; refine bx_ 2 #[.slice none 0 0] 29 ?_; intro gr hg w2 hbox hb; have BR := q_ hbox; have GR := ge_ hg HB; have NB := nl_ hg BK1; replace BK1 := lb_ BK1 hb; replace HB := sb_ HB hb; clear hb hbox hg hz0 hz1 hz2 hf0 hf1 hf2; obtain ⟨hz0, hz1, hz2, hf0, hf1, hf2⟩ := d3_ BK1)
    | (go_at_call 37; (with_reducible refine (DfaI_quiet k HK.o _ (Kd.C_below HR0.o (be_ HB.o)) HC0.o (Kd.C_below HR1.o (be_ HB.o)) HC1.o (Kd.C_below HR2.o (be_ HB.o)) HC2.o).mono ?_); rw [HN.o]; rintro e w3 ⟨rfl, hb⟩; replace BK1 := lb_ BK1 hb; replace BR := lb_ BR hb; replace HB := sb_ HB hb; clear hb hz0 hz1 hz2 hf0 hf1 hf2))
  go_upto_region 4 with (first
    | ((with_reducible refine gate_dst (N := 4) rfl ?_); clear T2; refine bx_ 4 #[.slice none 0 0] 29 ?_; intro g4 hg w4 hbox hb; have B4 := q_ hbox; have G4 := ge_ hg HB; have N1 := nl_ hg BK1; have NR := nl_ hg BR; replace BK1 := lb_ BK1 hb; replace BR := lb_ BR hb; replace HB := sb_ HB hb; clear hb hbox hg; obtain ⟨hy0, hyf⟩ := d1_ B4))
  have B4b : J0 ((w4.setCell ⟨g4, 0, none⟩ (.slice none 0 0)).heap[g4]? = some (.cells #[.slice none 0 0] 29)) := ⟨blk_put B4.o 0 _ rfl⟩
  have BK1b : J0 ((w4.setCell ⟨g4, 0, none⟩ (.slice none 0 0)).heap[g1]? = some (.cells #[.slice A0 l0.length c0, .slice A1 l1.length c1, .slice A2 l2.length c2] 32)) := ⟨blk_far BK1.o N1.o _⟩
  have BRb : J0 ((w4.setCell ⟨g4, 0, none⟩ (.slice none 0 0)).heap[gr]? = some (.cells #[.slice none 0 0] 29)) := ⟨blk_far BR.o NR.o _⟩
  replace HB := q_ (below_set (v := .slice none 0 0) (j := 0) HB.o G4.o)
  clear B4 BK1 BR hy0 hyf
  generalize w4.setCell ⟨g4, 0, none⟩ (.slice none 0 0) = w5 at *
  have B4 := B4b; have BK1 := BK1b; have BR := BRb; clear B4b BK1b BRb
  obtain ⟨hz0, hz1, hz2, hf0, hf1, hf2⟩ := d3_ BK1
  go_wp2_with fail
  go_loopg [14] l1.length (fun gg v14 wr => ∃ (kk : Nat) (v8 : Value), v14 = .int .i64 kk ∧ kk ≤ l1.length ∧ l1.length - kk ≤ gg ∧ J0 (wr.heap[g4]? = some (.cells #[v8] 29)) ∧ J0 (Kd.S k79 79 wr w.heap.size (fun _ => True) v8 (codeG l0 l1 l2 kk)) ∧ J0 (wr.heap[g1]? = some (.cells #[.slice A0 l0.length c0, .slice A1 l1.length c1, .slice A2 l2.length c2] 32)) ∧ J0 (wr.heap[gr]? = some (.cells #[.slice none 0 0] 29)) ∧ J0 (Below w.heap.size w wr))
  case atStart => exact ⟨0, _, rfl, by omega, by omega, B4, ⟨Kd.S_nil _ _ _ _ _⟩, BK1, BR, HB⟩
  case round =>
    clear B4 BK1 BR HB hz0 hz1 hz2 hf0 hf1 hf2
    obtain ⟨kk, v8, rfl, hkk, hgg, B4, HA, BK1, BR, HB⟩ := hrel
    obtain ⟨A8, c8, rfl⟩ := Kd.S_slice HA.o
    by_cases hlt : kk < l1.length
    · have hltz : decide ((kk : Int) < (l1.length : Int)) = true := decide_eq_true (by omega)
      have hs0 : (0 : Int) ≤ (kk : Int) := by omega
      have hs1 : (kk : Int) < (l1.length : Int) := by omega
      have hok : J0 (OkAt l0 l1 l2 (kk : Int)) := ⟨HD.o.bytes, ⟨hs0, hs1, by rw [HD.o.acc]; exact hs1⟩, HD.o.at_ _ hs0 hs1⟩
      have hrow : J0 (∀ x ∈ rowG l0 l1 (kk : Int) 256, 0 ≤ x ∧ x ≤ 1000000) := ⟨fun x hx => by have := HD.o.to_ _ hs0 hs1 x hx; omega⟩
      have hmo := q_ (HD.o.most _ hs0 hs1)
      have hsc : codeG l0 l1 l2 (kk + 1) = codeG l0 l1 l2 kk ++ [⟨rd l2 (kk : Int), armsUp (bestR (rowG l0 l1 (kk : Int) 256) l1.length) (rowG l0 l1 (kk : Int) 256) 256, bestR (rowG l0 l1 (kk : Int) 256) l1.length⟩] := codeG_succ l0 l1 l2 kk
      have hcl := codeG_length l0 l1 l2 kk
      have hBO := fun W hr0 hr1 hr2 => blockOf_hand A0 A1 A2 c0 c1 c2 l0 l1 l2 (kk : Int) _ hok.o hrow.o hmo.o W hr0 HC0.o hr1 HC1.o hr2 HC2.o
      generalize armsUp (bestR (rowG l0 l1 (kk : Int) 256) l1.length) (rowG l0 l1 (kk : Int) 256) 256 = arms at *
      generalize bestR (rowG l0 l1 (kk : Int) 256) l1.length = e at *
      generalize hcu : codeG l0 l1 l2 (kk + 1) = code2 at *
      have HCU := q_ hcu; clear hcu
      generalize codeG l0 l1 l2 kk = code at *
      generalize rd l2 (kk : Int) = ac at *
      have HSC := q_ hsc; have HCL := q_ hcl; have HBO := Lib.hid hBO
      clear hsc hcl hBO hok hrow hmo
      go_wp2_with fail
      replace BK1 := q_ (blk_drew BK1.o); replace BR := q_ (blk_drew BR.o); replace B4 := q_ (blk_drew B4.o); replace HB := q_ (below_drew1 HB.o)
      replace HA := q_ (Kd.S_drew (Kd.S_mono (Kd.S_bound HA.o) (ok' := fun k => True ∧ ¬ wr.heap.size ≤ k) fun k hk => ⟨trivial, Nat.not_le.2 hk.2.2.1⟩))
      have HL0 := q_ (Kd.S_lt HA.o)
      have HK : J0 (Below wr.heap.size wr wr.drew) := ⟨below_drew1 (Below.refl _ _)⟩
      refine start_ (n := 9) (S := fun w' => w'.cell? ⟨g4, 0, none⟩ = some (.slice A8 code.length c8) ∧ (w'.cell? ⟨g1, 0, none⟩ = some (.slice A0 l0.length c0) ∧ (w'.cell? ⟨g1, 1, none⟩ = some (.slice A1 l1.length c1) ∧ w'.cell? ⟨g1, 2, none⟩ = some (.slice A2 l2.length c2)))) (ds := [8]) (bb 9 0) (by kernel_rfl) rfl rfl ⟨(blk_cell B4.o 0).trans rfl, (blk_cell BK1.o 0).trans rfl, (blk_cell BK1.o 1).trans rfl, (blk_cell BK1.o 2).trans rfl⟩ (fun hS => ?_)
      generalize wr.drew = W1 at BK1 BR B4 HB HA HK hS ⊢
      refine pk_ 0 17 1 ?_; refine pk_ 3 20 9 ?_; refine tk_ 1 18 11 hS ?_; refine tk_ 2 19 15 hS ?_
      refine one_ (i := 4) (N := some 21) (bb 9 31) rfl rfl (by kernel_rfl) (by decide) (fun K hK => ?_)
      refine gs_ Try.func44 #[.agg #[.slice A0 l0.length c0, .slice A1 l1.length c1, .slice A2 l2.length c2], .int .i64 (kk : Int)] ?_
      with_reducible refine (HBO.out W1 (Kd.C_below HR0.o HB.o) (Kd.C_below HR1.o HB.o) (Kd.C_below HR2.o HB.o)).mono ?_
      rintro en W2 ⟨v1, rfl, hV, hb⟩
      refine ⟨_, rfl, ?_⟩
      obtain ⟨AV, cV, rfl⟩ := Kd.R_slice hV
      have HV : J0 (Kd.R k81 81 W2 w.heap.size (fun k => wr.heap.size ≤ k) (.slice AV arms.length cV) arms) := ⟨Kd.R_lower (Kd.R_mono (Kd.R_bound hV) fun k hk => Nat.le_trans HK.o.size hk.2.1) HB.o.size⟩
      replace HA := q_ (Kd.S_below HA.o hb); replace BK1 := lb_ BK1 hb; replace BR := lb_ BR hb; replace B4 := lb_ B4 hb; replace HB := q_ (below_step HB.o hb); replace HK := q_ (below_step HK.o hb); clear hb hV
      refine hK.out _ _ ⟨(blk_cell B4.o 0).trans rfl, (blk_cell BK1.o 0).trans rfl, (blk_cell BK1.o 1).trans rfl, (blk_cell BK1.o 2).trans rfl⟩ (fun hS => ?_)
      clear hK K
      refine no_ (some 21) ?_
      refine one_ (i := 5) (N := some 22) (bb 9 63) rfl rfl (by kernel_rfl) (by decide) (fun K hK => ?_)
      refine value_ (w1 := ?_) (v := ?_) (by rfl) rfl ?_ ?_
      rotate_left 2
      · go_simp
        constructor
        · rfl
        · rfl
      have hb : ∀ o, Below W2.heap.size W2 (W2.alloc o) := fun o => below_alloc (Below.refl _ _) o
      refine hK.out _ _ ⟨mv_ (hb _) hS.1, mv_ (hb _) hS.2.1, mv_ (hb _) hS.2.2.1, mv_ (hb _) hS.2.2.2⟩ (fun hS => ?_)
      clear hK K hb
      refine no_ (some 22) ?_
      refine one_ (i := 6) (N := some 23) (bb 9 127) rfl rfl (by kernel_rfl) (by decide) (fun K hK => ?_)
      refine Kd.S_append_step k79 (w0 := w) w.heap.size (by rfl) (.tmp 18) (.tmp 22) 27 79 (.agg #[(.int .i64 0), (.slice none 0 0), (.int .i64 0)]) 40 rfl Try.underlying27 infoCBlock_ rfl (by decide) (by omega) (.slice A8 code.length c8) code (⟨ac, arms, e⟩ : S79) [.int .i64 ac, .slice AV arms.length cV, .int .i64 e] (fun _ => True) (fun k => wr.heap.size ≤ k) rfl rfl ?aP ?aQ ?aF HA.o HB.o (below_size HB.o) ?aL ?_
      (case aP => exact k79_mkM _ _ _ (⟨ac, arms, e⟩ : S79) HV.o)
      (case aQ => exact fun k hk => ⟨trivial, fun e => Nat.not_lt.2 hk (HL0.o k e.symm)⟩)
      (case aF => exact fun k hk => trivial)
      (case aL => rw [HCL.o]; omega)
      intro v9 w9 ho hb hgr hat
      have hne := Kd.S_ne HA.o B4.o (by decide)
      have hne1 := Kd.S_ne HA.o BK1.o (by decide)
      have hneR := Kd.S_ne HA.o BR.o (by decide)
      have B4b := q_ (blk_grown B4.o hgr hne)
      have BK1b := q_ (blk_grown BK1.o hgr hne1)
      have BRb := q_ (blk_grown BR.o hgr hneR)
      clear B4 BK1 BR
      obtain ⟨A9, c9, rfl⟩ := Kd.S_slice ho
      have hln : (code ++ [(⟨ac, arms, e⟩ : S79)]).length = code.length + 1 := by simp
      rw [hln] at ho ⊢
      refine hK.out _ _ ⟨(blk_cell B4b.o 0).trans rfl, (blk_cell BK1b.o 0).trans rfl, (blk_cell BK1b.o 1).trans rfl, (blk_cell BK1b.o 2).trans rfl⟩ (fun hS => ?_)
      clear hK K
      refine no_ (some 23) ?_
      refine pk_ 7 24 255 ?_
      have hf2 := blk_frozen B4b.o 0
      refine last_ (i := 8) (N := none) (bb 9 511) rfl rfl (by kernel_rfl) (by decide) (fun K hK => ?_)
      refine skip_ (w1 := ?_) (by rfl) rfl ?_ ?_
      rotate_left
      · go_simp
        rfl
      refine hK.out _ _ ?_
      clear hK K
      refine done_ (by kernel_rfl) ?_
      have B4c : J0 ((w9.setCell ⟨g4, 0, none⟩ (.slice A9 (code.length + 1) c9)).heap[g4]? = some (.cells #[.slice A9 (code.length + 1) c9] 29)) := ⟨blk_put B4b.o 0 _ rfl⟩
      have BK1c : J0 ((w9.setCell ⟨g4, 0, none⟩ (.slice A9 (code.length + 1) c9)).heap[g1]? = some (.cells #[.slice A0 l0.length c0, .slice A1 l1.length c1, .slice A2 l2.length c2] 32)) := ⟨blk_far BK1b.o N1.o _⟩
      have BRc : J0 ((w9.setCell ⟨g4, 0, none⟩ (.slice A9 (code.length + 1) c9)).heap[gr]? = some (.cells #[.slice none 0 0] 29)) := ⟨blk_far BRb.o NR.o _⟩
      have HAc := q_ (Kd.S_set ho B4b.o (by decide) 0 (.slice A9 (code.length + 1) c9))
      have HBc := q_ (below_set (v := .slice A9 (code.length + 1) c9) (j := 0) hb G4.o)
      clear ho hb hgr hat hne hne1 hneR hS hf2 hln
      go_wp2_with fail
      go_roundg (l1.length - (kk + 1))
      case measure => omega
      case rel => exact ⟨kk + 1, _, by go_num, by omega, by omega, B4c, ⟨by rw [HCU.o, HSC.o]; exact HAc.o⟩, BK1c, BRc, HBc⟩
    · have e1 : kk = l1.length := by omega
      subst e1
      have hltz : decide ((l1.length : Int) < (l1.length : Int)) = false := decide_eq_false (by omega)
      obtain ⟨hy0, hyf⟩ := d1_ B4; obtain ⟨hrz0, hrf0⟩ := d1_ BR
      have HCL := q_ (codeG_length l0 l1 l2 l1.length)
      clear hgg hkk hlt
      go_wp2
      refine bodyPost_ret (results_ct rfl _ _ gr 29 #[.slice A8 (codeG l0 l1 l2 l1.length).length c8] (0, 0) _ rfl (blk_put BR.o 0 _ rfl) Try.underlying29 rfl (by kernel_rfl)) rfl ?_
      exact ⟨_, rfl, Kd.S_set HA.o BR.o (by decide) 0 _, below_set HB.o GR.o⟩
theorem GenCodeI_hand (A0 A1 A2 : Option Addr) (c0 c1 c2 : Nat) (l0 : List Int) (l1 : List (List Int)) (l2 : List Int) (k : Nat) (hk : impl_blocksOk.f k l0 = some (blkI l0)) (w : World) (hr0 : Kd.C (Kd.int .i64) w A0 l0.length l0) (hc0 : l0.length ≤ c0) (hr1 : Kd.C (Kd.slice 2 (Kd.int .i64)) w A1 l1.length l1) (hc1 : l1.length ≤ c1) (hr2 : Kd.C (Kd.int .i64) w A2 l2.length l2) (hc2 : l2.length ≤ c2) :
    Calls Try.prog 11 #[.agg #[.slice A0 l0.length c0, .slice A1 l1.length c1, .slice A2 l2.length c2]] w fun e w' => ∃ v, e = .returned (.tuple #[.agg #[v], .bool (dfaB l0 l1 l2)]) ∧ Kd.S k79 79 w' w.heap.size (fun _ => True) v (if dfaB l0 l1 l2 = true then codeG l0 l1 l2 l1.length else []) ∧ Below w.heap.size w w' := by
  by_cases h : dfaB l0 l1 l2 = true
  · rw [if_pos h, h]
    exact GenCodeI_some A0 A1 A2 c0 c1 c2 l0 l1 l2 k hk h w hr0 hc0 hr1 hc1 hr2 hc2
  · have h := Bool.not_eq_true _ ▸ h
    rw [h, if_neg (by decide)]
    refine (GenCodeI_none A0 A1 A2 c0 c1 c2 l0 l1 l2 k hk h w hr0 hc0 hr1 hc1 hr2 hc2).mono ?_
    rintro e w' ⟨rfl, hb⟩
    exact ⟨_, rfl, Kd.S_nil _ _ _ _ _, hb⟩
end Go.Proofs.Ytlecpdpdcocibaa.P
namespace Go.Proofs.Ytlecpdpdcocibaa.P
open Go.RowKit Go.Proofs.YtlecpdpdcocibaaW.PrintWords Go.Proofs.YtlecpdpdcocibaaW.PrintLast Go.Proofs.YtlecpdpdcocibaaW.PrintMore
attribute [local go_sem] max2_int min2_int max_two min_two max_three min_three max_four min_four
set_option linter.unusedVariables false
set_option linter.unusedSimpArgs false
/-! ### impl_GenCode: function 11 -/
def impl_GenCode.f (k : Nat) (l0_0 : List Int) (l0_1 : List (List Int)) (l0_2 : List Int) : Option (List S79 × Bool) := if impl_blocksOk.f k l0_0 = some (blkI l0_0) then some (if dfaB l0_0 l0_1 l0_2 = true then codeG l0_0 l0_1 l0_2 l0_1.length else [], dfaB l0_0 l0_1 l0_2) else none
theorem impl_GenCode.calls (k : Nat) (A0_0 : Option Addr) (c0_0 : Nat) (l0_0 : List Int) (A0_1 : Option Addr) (c0_1 : Nat) (l0_1 : List (List Int)) (A0_2 : Option Addr) (c0_2 : Nat) (l0_2 : List Int) (r1 : List S79) (r2 : Bool) (w : World) (hr0_0 : Kd.C (Kd.int .i64) w A0_0 l0_0.length l0_0) (hc0_0 : l0_0.length ≤ c0_0) (hr0_1 : Kd.C (Kd.slice 2 (Kd.int .i64)) w A0_1 l0_1.length l0_1) (hc0_1 : l0_1.length ≤ c0_1) (hr0_2 : Kd.C (Kd.int .i64) w A0_2 l0_2.length l0_2) (hc0_2 : l0_2.length ≤ c0_2) (h : impl_GenCode.f k l0_0 l0_1 l0_2 = some (r1, r2)) :
    Calls Try.prog 11 #[.agg #[.slice A0_0 l0_0.length c0_0, .slice A0_1 l0_1.length c0_1, .slice A0_2 l0_2.length c0_2]] w fun e w' => ∃ v0_ : Value, e = .returned (.tuple #[.agg #[v0_], .bool r2]) ∧ Kd.S k79 79 w' w.heap.size (fun _ => True) v0_ r1 ∧ Below w.heap.size w w' := by
  unfold impl_GenCode.f at h
  split at h
  · rename_i hk
    have h := Option.some.inj h
    injection h with h1 h2
    subst h1 h2
    exact GenCodeI_hand A0_0 A0_1 A0_2 c0_0 c0_1 c0_2 l0_0 l0_1 l0_2 k hk w hr0_0 hc0_0 hr0_1 hc0_1 hr0_2 hc0_2
  · simp at h
end Go.Proofs.Ytlecpdpdcocibaa.P
namespace Go.Proofs.Ytlecpdpdcocibaa.P
open Go.RowKit Go.Shelf Go.Proofs.YtlecpdpdcocibaaW.PrintWords Go.Proofs.YtlecpdpdcocibaaW.PrintLast Go.Proofs.YtlecpdpdcocibaaW.PrintMore Go.Proofs.YtlecpdpdcocibaaEv
set_option linter.unusedVariables false
set_option linter.unusedSimpArgs false
theorem infoCBlockS_ : (Try.prog.info? 79).map (fun i => (i.zero, i.size, i.bytes)) = some (some (.agg #[(.int .i64 0), (.slice none 0 0), (.int .i64 0)]), 3, 40) := by kernel_rfl
theorem GenCodeS_none (A0 A1 A2 : Option Addr) (c0 c1 c2 : Nat) (l0 : List Int) (l1 : List (List Int)) (l2 : List Int) (k : Nat) (hk : spec_DfaOk.f k l0 l1 l2 = some false) (w : World) (hr0 : Kd.C (Kd.int .i64) w A0 l0.length l0) (hc0 : l0.length ≤ c0) (hr1 : Kd.C (Kd.slice 2 (Kd.int .i64)) w A1 l1.length l1) (hc1 : l1.length ≤ c1) (hr2 : Kd.C (Kd.int .i64) w A2 l2.length l2) (hc2 : l2.length ≤ c2) :
    Calls Try.prog 9 #[.agg #[.slice A0 l0.length c0, .slice A1 l1.length c1, .slice A2 l2.length c2]] w fun e w' => e = .returned (.tuple #[.agg #[.slice none 0 0], .bool false]) ∧ Below w.heap.size w w' := by
  have HK := q_ hk; have HR0 := q_ hr0; have HC0 := q_ hc0; have HR1 := q_ hr1; have HC1 := q_ hc1; have HR2 := q_ hr2; have HC2 := q_ hc2; have HB := q_ (Below.refl w.heap.size w)
  have T0 : J0 True := ⟨trivial⟩; have T1 : J0 True := ⟨trivial⟩; have T2 : J0 True := ⟨trivial⟩
  clear hk hr0 hc0 hr1 hc1 hr2 hc2
  go_enter Try.func9, Try.ntmps9
  go_upto_region 2 with (first
    | ((with_reducible refine gate_dst (N := 1) rfl ?_); clear T0; refine bx_ 1 #[.slice A0 l0.length c0, .slice A1 l1.length c1, .slice A2 l2.length c2] 32 ?_; intro g1 hg w1 hbox hb; have BK1 := q_ hbox; have G1 := ge_ hg HB; replace HB := sb_ HB hb; clear hb hbox hg)
    | ((with_reducible refine gate_dst (N := 2) rfl ?_); clear T1; refine bx_ 2 #[.slice none 0 0] 29 ?_; intro gr hg w2 hbox hb; have BR := q_ hbox; have GR := ge_ hg HB; have NB := nl_ hg BK1; replace BK1 := lb_ BK1 hb; replace HB := sb_ HB hb; clear hb hbox hg)
    | ((with_reducible refine gate_dst (N := 4) rfl ?_); clear T2; refine bx_ 4 #[.slice none 0 0] 29 ?_; intro g4 hg w4 hbox hb; have B4 := q_ hbox; have G4 := ge_ hg HB; have N1 := nl_ hg BK1; have NR := nl_ hg BR; replace BK1 := lb_ BK1 hb; replace BR := lb_ BR hb; replace HB := sb_ HB hb; clear hb hbox hg; obtain ⟨hy0, hyf⟩ := d1_ B4))
  have B4b : J0 ((w4.setCell ⟨g4, 0, none⟩ (.slice none 0 0)).heap[g4]? = some (.cells #[.slice none 0 0] 29)) := ⟨blk_put B4.o 0 _ rfl⟩
  have BK1b : J0 ((w4.setCell ⟨g4, 0, none⟩ (.slice none 0 0)).heap[g1]? = some (.cells #[.slice A0 l0.length c0, .slice A1 l1.length c1, .slice A2 l2.length c2] 32)) := ⟨blk_far BK1.o N1.o _⟩
  have BRb : J0 ((w4.setCell ⟨g4, 0, none⟩ (.slice none 0 0)).heap[gr]? = some (.cells #[.slice none 0 0] 29)) := ⟨blk_far BR.o NR.o _⟩
  replace HB := q_ (below_set (v := .slice none 0 0) (j := 0) HB.o G4.o)
  clear B4 BK1 BR hy0 hyf
  generalize w4.setCell ⟨g4, 0, none⟩ (.slice none 0 0) = w5 at *
  have B4 := B4b; have BK1 := BK1b; have BR := BRb; clear B4b BK1b BRb
  obtain ⟨hz0, hz1, hz2, hf0, hf1, hf2⟩ := d3_ BK1
  go_wp2_with (go_at_call 40; (with_reducible refine (spec_DfaOk.calls k _ _ _ _ _ _ _ _ _ _ _ (Kd.C_below HR0.o (be_ HB.o)) HC0.o (Kd.C_below HR1.o (be_ HB.o)) HC1.o (Kd.C_below HR2.o (be_ HB.o)) HC2.o HK.o).mono ?_); rintro e w3 ⟨rfl, hb⟩; replace BR := lb_ BR hb; replace B4 := lb_ B4 hb; replace HB := sb_ HB hb; clear hb hz0 hz1 hz2 hf0 hf1 hf2; obtain ⟨hrz0, hrf0⟩ := d1_ BR; obtain ⟨hy0, hyf⟩ := d1_ B4)
  refine bodyPost_ret (results_ct rfl _ _ gr 29 #[.slice none 0 0] (0, 0) _ rfl (blk_put BR.o 0 _ rfl) Try.underlying29 rfl (by kernel_rfl)) rfl ?_
  exact ⟨rfl, below_set HB.o GR.o⟩
theorem GenCodeS_some (A0 A1 A2 : Option Addr) (c0 c1 c2 : Nat) (l0 : List Int) (l1 : List (List Int)) (l2 : List Int) (k : Nat) (hk : spec_DfaOk.f k l0 l1 l2 = some true) (hyes : dfaB l0 l1 l2 = true) (hdef : ∀ s, s < l1.length → spec_l10Default.f k (rowG l0 l1 (s : Int) 256) l1.length = some (bestR (rowG l0 l1 (s : Int) 256) l1.length)) (w : World) (hr0 : Kd.C (Kd.int .i64) w A0 l0.length l0) (hc0 : l0.length ≤ c0) (hr1 : Kd.C (Kd.slice 2 (Kd.int .i64)) w A1 l1.length l1) (hc1 : l1.length ≤ c1) (hr2 : Kd.C (Kd.int .i64) w A2 l2.length l2) (hc2 : l2.length ≤ c2) :
    Calls Try.prog 9 #[.agg #[.slice A0 l0.length c0, .slice A1 l1.length c1, .slice A2 l2.length c2]] w fun e w' => ∃ v, e = .returned (.tuple #[.agg #[v], .bool true]) ∧ Kd.S k79 79 w' w.heap.size (fun _ => True) v (codeG l0 l1 l2 l1.length) ∧ Below w.heap.size w w' := by
  obtain ⟨m, hD⟩ := dfaB_true hyes
  have HD := q_ hD
  have hrows := hD.rows
  obtain ⟨ad0, rfl, _⟩ := Kd.at_int hr0 0 (by omega) (by have := hD.bytes; omega)
  obtain ⟨ad2, rfl, _⟩ := Kd.at_int hr2 0 (by omega) (by have := hD.acc; omega)
  obtain ⟨ad1, _, _, rfl, _⟩ := at_L1 hr1 0 (by omega) (by omega)
  have HK := q_ hk; have HR0 := q_ hr0; have HC0 := q_ hc0; have HR1 := q_ hr1; have HC1 := q_ hc1; have HR2 := q_ hr2; have HC2 := q_ hc2; have HB := q_ (Below.refl w.heap.size w); have HDF := q_ hdef
  have T0 : J0 True := ⟨trivial⟩; have T1 : J0 True := ⟨trivial⟩; have T2 : J0 True := ⟨trivial⟩
  clear hk hr0 hc0 hr1 hc1 hr2 hc2 hyes hD hdef
  go_enter Try.func9, Try.ntmps9
  go_upto_region 2 with (first
    | ((with_reducible refine gate_dst (N := 1) rfl ?_); clear T0; refine bx_ 1 #[.slice (some ad0) l0.length c0, .slice (some ad1) l1.length c1, .slice (some ad2) l2.length c2] 32 ?_; intro g1 hg w1 hbox hb; have BK1 := q_ hbox; have G1 := ge_ hg HB; replace HB := sb_ HB hb; clear hb hbox hg)
    | ((with_reducible refine gate_dst (N := 2) rfl ?_); clear T1; refine bx_ 2 #[.slice none 0 0] 29 ?_; intro gr hg w2 hbox hb; have BR := q_ hbox; have GR := ge_ hg HB; have NB := nl_ hg BK1; replace BK1 := lb_ BK1 hb; replace HB := sb_ HB hb; clear hb hbox hg)
    | ((with_reducible refine gate_dst (N := 4) rfl ?_); clear T2; refine bx_ 4 #[.slice none 0 0] 29 ?_; intro g4 hg w4 hbox hb; have B4 := q_ hbox; have G4 := ge_ hg HB; have N1 := nl_ hg BK1; have NR := nl_ hg BR; replace BK1 := lb_ BK1 hb; replace BR := lb_ BR hb; replace HB := sb_ HB hb; clear hb hbox hg; obtain ⟨hy0, hyf⟩ := d1_ B4))
  have B4b : J0 ((w4.setCell ⟨g4, 0, none⟩ (.slice none 0 0)).heap[g4]? = some (.cells #[.slice none 0 0] 29)) := ⟨blk_put B4.o 0 _ rfl⟩
  have BK1b : J0 ((w4.setCell ⟨g4, 0, none⟩ (.slice none 0 0)).heap[g1]? = some (.cells #[.slice (some ad0) l0.length c0, .slice (some ad1) l1.length c1, .slice (some ad2) l2.length c2] 32)) := ⟨blk_far BK1.o N1.o _⟩
  have BRb : J0 ((w4.setCell ⟨g4, 0, none⟩ (.slice none 0 0)).heap[gr]? = some (.cells #[.slice none 0 0] 29)) := ⟨blk_far BR.o NR.o _⟩
  replace HB := q_ (below_set (v := .slice none 0 0) (j := 0) HB.o G4.o)
  clear B4 BK1 BR hy0 hyf
  generalize w4.setCell ⟨g4, 0, none⟩ (.slice none 0 0) = w5 at *
  have B4 := B4b; have BK1 := BK1b; have BR := BRb; clear B4b BK1b BRb
  obtain ⟨hz0, hz1, hz2, hf0, hf1, hf2⟩ := d3_ BK1
  go_wp2_with (go_at_call 40; (with_reducible refine (spec_DfaOk.calls k _ _ _ _ _ _ _ _ _ _ _ (Kd.C_below HR0.o (be_ HB.o)) HC0.o (Kd.C_below HR1.o (be_ HB.o)) HC1.o (Kd.C_below HR2.o (be_ HB.o)) HC2.o HK.o).mono ?_); rintro e w3 ⟨rfl, hb⟩; replace BK1 := lb_ BK1 hb; replace BR := lb_ BR hb; replace B4 := lb_ B4 hb; replace HB := sb_ HB hb; clear hb hz0 hz1 hz2 hf0 hf1 hf2)
  go_loopg [5] l1.length (fun gg v5 wr => ∃ (kk : Nat) (v8 : Value), v5 = .int .i64 kk ∧ kk ≤ l1.length ∧ l1.length - kk ≤ gg ∧ J0 (wr.heap[g4]? = some (.cells #[v8] 29)) ∧ J0 (Kd.S k79 79 wr w.heap.size (fun _ => True) v8 (codeG l0 l1 l2 kk)) ∧ J0 (wr.heap[g1]? = some (.cells #[.slice (some ad0) l0.length c0, .slice (some ad1) l1.length c1, .slice (some ad2) l2.length c2] 32)) ∧ J0 (wr.heap[gr]? = some (.cells #[.slice none 0 0] 29)) ∧ J0 (Below w.heap.size w wr))
  case atStart => exact ⟨0, _, rfl, by omega, by omega, B4, ⟨Kd.S_nil _ _ _ _ _⟩, BK1, BR, HB⟩
  case round =>
    clear B4 BK1 BR HB
    obtain ⟨kk, v8, rfl, hkk, hgg, B4, HA, BK1, BR, HB⟩ := hrel
    obtain ⟨A8, c8, rfl⟩ := Kd.S_slice HA.o
    obtain ⟨hz0, hz1, hz2, hf0, hf1, hf2⟩ := d3_ BK1
    by_cases hlt : kk < l1.length
    · have hltz : decide ((kk : Int) < (l1.length : Int)) = true := decide_eq_true (by omega)
      have hs0 : (0 : Int) ≤ (kk : Int) := by omega
      have hs1 : (kk : Int) < (l1.length : Int) := by omega
      have HRNG := q_ (HD.o.to_ _ hs0 hs1)
      have HDF1 := q_ (HDF.o kk hlt)
      generalize wr = wo at *
      have HW := q_ (Below.refl wo.heap.size wo)
      have TR : J0 True := ⟨trivial⟩
      go_wp2_with ((with_reducible refine gate_dst (N := 23) rfl ?_); clear TR; refine Kd.R_lit (Kd.int .i64) _ 2 ?hg (N := 23) ?hd (xs := ([] : List Int)) (inner := []) (ok := fun _ => True) (okp := fun _ => True) ?hr ?hp (fun _ hk => hk) trivial (Below.refl _ _) (Nat.le_refl _) (by simp) ?_; (case hd => rfl); (case hg => rfl); (case hr => first | (go_simp; done) | (go_simp; rfl)); (case hp => exact (Reps.none _ _)); intro v3 w3 ho hb hgg_ hnew_; clear hgg_ hnew_; have HO := q_ (Kd.R_lower ho HW.o.size); replace HW := sb_ HW hb; clear hb ho)
      go_loopg [6, 7] 256 (fun gg v6 v7 wr => ∃ b : Nat, v7 = .int .i64 b ∧ b ≤ 256 ∧ 256 - b ≤ gg ∧ J0 (Kd.R (Kd.int .i64) 2 wr wo.heap.size (fun _ => True) v6 (rowG l0 l1 (kk : Int) b)) ∧ J0 (Below wo.heap.size wo wr))
      case atStart => exact ⟨0, rfl, by omega, by omega, HO, HW⟩
      case round =>
        clear HO HW hz0 hz1 hz2 hf0 hf1 hf2
        obtain ⟨b, rfl, hb256, hgb, HO, HW⟩ := hrel
        obtain ⟨hz0, hz1, hz2, hf0, hf1, hf2⟩ := d3_ (q_ (blk_below BK1.o HW.o))
        by_cases hlb : b < 256
        · have hltz : decide ((b : Int) < 256) = true := decide_eq_true (by omega)
          have hbz : (0 : Int) ≤ (b : Int) := by omega
          have hbl : (b : Int) < (l0.length : Int) := by have := HD.o.bytes; omega
          obtain ⟨hq0, hq1⟩ := HD.o.at_ _ hs0 hs1 b hlb
          have HBW := q_ (below_step HB.o HW.o)
          obtain ⟨adb, eb, hxb⟩ := Kd.at_int HR0.o (b : Int) hbz hbl
          obtain ⟨adk, Ar, cr, ek, hxk, hlk, hrk⟩ := at_L1 HR1.o (kk : Int) hs0 hs1
          obtain ⟨adr, er, hxr⟩ := Kd.at_int hrk (rd l0 (b : Int)) hq0 hq1
          cases eb; cases ek; subst er
          rw [Int.toNat_natCast] at hxb hxk
          have p0 := eq_true hbz; have q0 := eq_true hbl; have p1 := eq_true hs0; have q1 := eq_true hs1; have p2 := eq_true hq0; have q2 := eq_true hq1
          have hsc := rowG_succ l0 l1 (kk : Int) b
          have hln := rowG_length l0 l1 (kk : Int) b
          generalize rd (rd_L1 l1 (kk : Int)) (rd l0 (b : Int)) = y at *
          generalize rd l0 (b : Int) = bl at *
          generalize rd_L1 l1 (kk : Int) = rw_ at *
          have HSC := q_ hsc; have HLN := q_ hln; have HXb := q_ hxb; have HXk := q_ hxk; have HXr := q_ hxr
          obtain ⟨A6, c6, rfl⟩ := Kd.R_slice HO.o
          clear hsc hln hlk hrk hbz hbl hq0 hq1 hxb hxk hxr HBW
          go_wp2_with fail
          replace HO := q_ (Kd.R_drew HO.o)
          have HWd : J0 (Below wo.heap.size wo wr.drew) := ⟨below_drew1 HW.o⟩
          have BK1w := q_ (blk_below BK1.o HWd.o)
          have HBd := q_ (below_step HB.o HWd.o)
          refine start_ (n := 16) (S := fun w' => w'.cell? ⟨g1, 1, none⟩ = some (.slice (some ad1) l1.length c1) ∧ (w'.cell? ⟨g1, 0, none⟩ = some (.slice (some ad0) l0.length c0) ∧ (w'.cell? (ad1.add kk) = some (.slice (some adr) rw_.length cr) ∧ (w'.cell? (ad0.add b) = some (.int .i64 bl) ∧ w'.cell? (adr.add bl.toNat) = some (.int .i64 y))))) (ds := []) (bb 16 0) (by kernel_rfl) rfl rfl ⟨(blk_cell BK1w.o 1).trans rfl, (blk_cell BK1w.o 0).trans rfl, mv_ HBd.o HXk.o, mv_ HBd.o HXb.o, mv_ HBd.o HXr.o⟩ (fun hS => ?_)
          generalize wr.drew = wd at BK1w HWd HBd HO hS ⊢
          clear hz0 hz1 hz2 hf0 hf1 hf2 HW
          refine pk_ 0 28 1 ?_; refine pk_ 1 29 3 ?_; refine tk_ 2 30 7 hS ?_; refine pk_ 3 31 15 ?_; refine pk_ 4 32 31 ?_; refine tk_ 5 33 63 hS ?_; refine pk_ 6 34 127 ?_; refine tk_ 7 35 255 hS ?_; refine pk_ 8 36 511 ?_; refine pk_ 9 37 1023 ?_; refine tk_ 10 38 2047 hS ?_; refine pk_ 11 39 4095 ?_; refine tk_ 12 40 8191 hS ?_
          refine one_ (i := 13) (N := some 41) (bb 16 16383) rfl rfl (by kernel_rfl) (by decide) (fun K hK => ?_)
          refine value_ (w1 := ?_) (v := ?_) (by rfl) rfl ?_ ?_
          rotate_left 2
          · go_simp
            constructor
            · rfl
            · rfl
          have hb : ∀ o, Below wd.heap.size wd (wd.alloc o) := fun o => below_alloc (Below.refl _ _) o
          refine hK.out _ _ ⟨mv_ (hb _) hS.1, mv_ (hb _) hS.2.1, mv_ (hb _) hS.2.2.1, mv_ (hb _) hS.2.2.2.1, mv_ (hb _) hS.2.2.2.2⟩ (fun hS => ?_)
          clear hK K hb
          refine no_ (some 41) ?_
          refine one_ (i := 14) (N := some 42) (bb 16 32767) rfl rfl (by kernel_rfl) (by decide) (fun K hK => ?_)
          refine Kd.R_append_step (Kd.int .i64) (w0 := wo) wo.heap.size (by rfl) (.tmp 28) (.tmp 41) 22 2 (.int .i64 0) 8 rfl Try.underlying22 info2 rfl (by decide) (by omega) (.slice A6 (rowG l0 l1 (kk : Int) b).length c6) (rowG l0 l1 (kk : Int) b) y [.int .i64 y] (fun _ => True) (fun _ => False) rfl rfl ?aP (fun _ hk => hk.elim) ?aF ?aO ?aB ?aS ?aL ?_
          (case aP => exact rfl)
          (case aF => exact (fun _ _ => trivial))
          (case aO => exact HO.o)
          (case aB => exact HWd.o)
          (case aS => exact HWd.o.size)
          (case aL => rw [HLN.o]; omega)
          intro v9 w9 ho hb hg hat
          have HO2 := q_ ho; have HW := q_ hb
          have HBe := below_step HB.o hb
          have BK1e := blk_below BK1.o hb
          refine hK.out _ _ ⟨(blk_cell BK1e 1).trans rfl, (blk_cell BK1e 0).trans rfl, mv_ HBe HXk.o, mv_ HBe HXb.o, mv_ HBe HXr.o⟩ (fun hS => ?_)
          clear hK K HBe BK1e ho hb hg hat
          refine no_ (some 42) ?_
          refine pk_ 15 6 65535 ?_
          refine done_ (by kernel_rfl) ?_
          clear hS HO HWd HBd BK1w
          go_wp2_with fail
          go_roundg (256 - (b + 1))
          case measure => omega
          case rel => exact ⟨b + 1, by go_num, by omega, by omega, ⟨by rw [HSC.o]; exact HO2.o⟩, HW⟩
        · have e256 : b = 256 := by omega
          subst e256
          have hltz : decide (((256 : Nat) : Int) < 256) = false := by decide
          clear hgb hb256 hlb
          have hmo := q_ (HD.o.most _ hs0 hs1)
          have hsc : codeG l0 l1 l2 (kk + 1) = codeG l0 l1 l2 kk ++ [⟨rd l2 (kk : Int), armsUp (bestR (rowG l0 l1 (kk : Int) 256) l1.length) (rowG l0 l1 (kk : Int) 256) 256, bestR (rowG l0 l1 (kk : Int) 256) l1.length⟩] := codeG_succ l0 l1 l2 kk
          have hcl := codeG_length l0 l1 l2 kk
          have hln := rowG_length l0 l1 (kk : Int) 256
          generalize rowG l0 l1 (kk : Int) 256 = row at *
          generalize bestR row l1.length = e at *
          generalize hcu : codeG l0 l1 l2 (kk + 1) = code2 at *
          generalize codeG l0 l1 l2 kk = code at *
          have HSC := q_ hsc; have HCL := q_ hcl; have HLN := q_ hln; have HCU := q_ hcu
          clear hsc hcl hln hcu
          obtain ⟨A6, c6, rfl⟩ := Kd.R_slice HO.o
          have hs2 : (kk : Int) < (l2.length : Int) := by rw [HD.o.acc]; exact hs1
          obtain ⟨adx, e2, hx2⟩ := Kd.at_int HR2.o (kk : Int) hs0 hs2
          cases e2
          rw [Int.toNat_natCast] at hx2
          have HX2 := q_ hx2; clear hx2
          have p0 := eq_true hs0; have q0 := eq_true hs2
          go_wp2_with fail
          clear hz0 hz1 hz2 hf0 hf1 hf2
          have HWd : J0 (Below wo.heap.size wo wr.drew) := ⟨below_drew1 HW.o⟩
          replace HO := q_ (Kd.R_drew HO.o)
          have HBW := q_ (below_step HB.o HWd.o)
          have BK1w := q_ (blk_below BK1.o HWd.o)
          refine start_ (n := 13) (S := fun w' => w'.cell? ⟨g1, 2, none⟩ = some (.slice (some ad2) l2.length c2) ∧ (w'.cell? ⟨g1, 1, none⟩ = some (.slice (some ad1) l1.length c1) ∧ w'.cell? (ad2.add kk) = some (.int .i64 (rd l2 (kk : Int))))) (ds := [12]) (bb 13 0) (by kernel_rfl) rfl rfl ⟨(blk_cell BK1w.o 2).trans rfl, (blk_cell BK1w.o 1).trans rfl, mv_ HBW.o HX2.o⟩ (fun hS => ?_)
          generalize wr.drew = wd at BK1w HBW HWd HO hS ⊢
          clear HW
          refine pk_ 0 43 1 ?_; refine tk_ 1 44 3 hS ?_; refine pk_ 2 45 7 ?_; refine pk_ 3 46 15 ?_; refine tk_ 4 47 31 hS ?_; refine pk_ 5 48 63 ?_; refine pk_ 6 49 127 ?_; refine tk_ 7 50 255 hS ?_; refine pk_ 8 51 511 ?_
          clear BK1w HBW
          refine join_ (σ := Nat) 1 (bb 13 4095) (fun g8 => [(52, .int .i64 e), (53, .agg #[.int .i64 (rd l2 (kk : Int)), .slice none 0 0, .int .i64 e]), (8, .pointer (some ⟨g8, 0, none⟩))]) (fun g8 w' => Kd.R (Kd.int .i64) 2 w' wo.heap.size (fun _ => True) (.slice A6 row.length c6) row ∧ w'.heap[g8]? = some (.cells #[.int .i64 0, .slice none 0 0, .int .i64 0] 79) ∧ wo.heap.size ≤ g8 ∧ Below wo.heap.size wo w') ?_ ?_
          rotate_left
          · intro hCont
            refine two_ (i := 9) (j := 11) (Ni := some 52) (Nj := some 8) (bb 13 1023) (bb 13 2559) rfl rfl rfl rfl (by kernel_rfl) (by decide) (by decide) (fun K hK => ?_) (fun K hK => ?_)
            · refine gs_ Try.func41 #[.slice A6 row.length c6, .int .i64 (l1.length : Int)] ?_
              with_reducible refine (spec_l10Default.calls k A6 c6 row (l1.length : Int) e _ (Kd.R_reads' HO.o).2.2 (L_of_R HO.o) HDF1.o).mono ?_
              rintro en w7 ⟨rfl, hb⟩
              refine ⟨_, rfl, ?_⟩
              replace HO := q_ (Kd.R_below HO.o hb); replace HWd := sb_ HWd hb; clear hb
              refine hK.out _ _ ⟨(blk_cell (blk_below BK1.o HWd.o) 2).trans rfl, (blk_cell (blk_below BK1.o HWd.o) 1).trans rfl, mv_ (below_step HB.o HWd.o) HX2.o⟩ (fun hS => ?_)
              clear hK K; refine no_ (some 52) ?_; refine pk_ 10 53 2047 ?_
              refine one_ (i := 11) (N := some 8) (bb 13 4095) rfl rfl (by kernel_rfl) (by decide) (fun K hK => ?_)
              refine value_ (w1 := ?_) (v := ?_) (by rfl) rfl ?_ ?_
              rotate_left 2
              · go_simp
                constructor
                · rfl
                · rfl
              have hb : Below w7.heap.size w7 (w7.alloc (.cells #[.int .i64 0, .slice none 0 0, .int .i64 0] 79)) := below_alloc (Below.refl _ _) _
              have B8 := q_ (blk_new w7 (.cells #[.int .i64 0, .slice none 0 0, .int .i64 0] 79))
              have G8 : J0 (wo.heap.size ≤ w7.heap.size) := ⟨HWd.o.size⟩
              replace HO := q_ (Kd.R_below HO.o hb); replace HWd := sb_ HWd hb
              refine hK.out _ _ ⟨(blk_cell (blk_below BK1.o HWd.o) 2).trans rfl, (blk_cell (blk_below BK1.o HWd.o) 1).trans rfl, mv_ (below_step HB.o HWd.o) HX2.o⟩ (fun hS => ?_)
              clear hK K hb; refine no_ (some 8) ?_
              generalize World.alloc _ (Obj.cells #[.int .i64 0, .slice none 0 0, .int .i64 0] 79) = wz at *
              exact norm_ (by simp only [putAll, Act.put, List.setIfInBounds_toArray, List.set_cons_zero, List.set_cons_succ]) (hCont _ _ ⟨HO.o, B8.o, G8.o, HWd.o⟩)
            · refine value_ (w1 := ?_) (v := ?_) (by rfl) rfl ?_ ?_
              rotate_left 2
              · go_simp
                constructor
                · rfl
                · rfl
              have hb : Below wd.heap.size wd (wd.alloc (.cells #[.int .i64 0, .slice none 0 0, .int .i64 0] 79)) := below_alloc (Below.refl _ _) _
              have B8 := q_ (blk_new wd (.cells #[.int .i64 0, .slice none 0 0, .int .i64 0] 79))
              have G8 : J0 (wo.heap.size ≤ wd.heap.size) := ⟨HWd.o.size⟩
              replace HO := q_ (Kd.R_below HO.o hb); replace HWd := sb_ HWd hb
              refine hK.out _ _ ⟨(blk_cell (blk_below BK1.o HWd.o) 2).trans rfl, (blk_cell (blk_below BK1.o HWd.o) 1).trans rfl, mv_ (below_step HB.o HWd.o) HX2.o⟩ (fun hS => ?_)
              clear hK K hb; refine no_ (some 8) ?_
              generalize World.alloc _ (Obj.cells #[.int .i64 0, .slice none 0 0, .int .i64 0] 79) = wz at *
              refine one_ (i := 9) (N := some 52) (bb 13 3071) rfl rfl (by kernel_rfl) (by decide) (fun K hK => ?_)
              refine gs_ Try.func41 #[.slice A6 row.length c6, .int .i64 (l1.length : Int)] ?_
              with_reducible refine (spec_l10Default.calls k A6 c6 row (l1.length : Int) e _ (Kd.R_reads' HO.o).2.2 (L_of_R HO.o) HDF1.o).mono ?_
              rintro en w7 ⟨rfl, hb⟩
              refine ⟨_, rfl, ?_⟩
              replace HO := q_ (Kd.R_below HO.o hb); replace HWd := sb_ HWd hb; replace B8 := lb_ B8 hb; clear hb
              refine hK.out _ _ ⟨(blk_cell (blk_below BK1.o HWd.o) 2).trans rfl, (blk_cell (blk_below BK1.o HWd.o) 1).trans rfl, mv_ (below_step HB.o HWd.o) HX2.o⟩ (fun hS => ?_)
              clear hK K; refine no_ (some 52) ?_; refine pk_ 10 53 4095 ?_
              exact norm_ (by simp only [putAll, Act.put, List.setIfInBounds_toArray, List.set_cons_zero, List.set_cons_succ]) (hCont _ _ ⟨HO.o, B8.o, G8.o, HWd.o⟩)
          rintro g8 w8 ⟨h0_, h1_, h2_, h3_⟩
          clear HWd HO hS
          have HO := q_ h0_; have B8 := q_ h1_; have G8 := q_ h2_; have HW := q_ h3_
          clear h0_ h1_ h2_ h3_
          obtain ⟨hy0, hy1, hy2, hyf0, hyf1, hyf2⟩ := d3_ B8
          refine norm_ (a' := ?_) ?_ ?_
          rotate_left
          · simp only [putAll, Act.put, List.setIfInBounds_toArray, List.set_cons_zero, List.set_cons_succ]
            rfl
          refine last_ (i := 12) (N := none) (bb 13 8191) rfl rfl (by kernel_rfl) (by decide) (fun K hK => ?_)
          refine skip_ (w1 := ?_) (by rfl) rfl ?_ ?_
          rotate_left
          · go_simp
            rfl
          refine hK.out _ _ ?_
          clear hK K
          refine done_ (by kernel_rfl) ?_
          have B8b := q_ (fin3_ (a := .int .i64 (rd l2 (kk : Int))) (b := .slice none 0 0) (c := .int .i64 e) B8.o)
          have HOb := q_ (fin3R_ (a := .int .i64 (rd l2 (kk : Int))) (b := .slice none 0 0) (c := .int .i64 e) (Kd.R_types HO.o B8.o (by decide)) (fun _ hk => hk.2))
          replace HW := q_ (finB_ (a := .int .i64 (rd l2 (kk : Int))) (b := .slice none 0 0) (c := .int .i64 e) HW.o G8.o)
          clear B8 HO hy0 hy1 hy2 hyf0 hyf1 hyf2
          generalize ((w8.setCell ⟨g8, 0, none⟩ (.int .i64 (rd l2 (kk : Int)))).setCell ⟨g8, 1, none⟩ (.slice none 0 0)).setCell ⟨g8, 2, none⟩ (.int .i64 e) = w10 at *
          have B8 := B8b; have HO := HOb
          clear B8b HOb
          go_wp2_with fail
          go_loopg [9] 256 (fun gg v9 wr => ∃ (b : Nat) (v1 : Value), v9 = .int .i64 b ∧ b ≤ 256 ∧ 256 - b ≤ gg ∧ J0 (wr.heap[g8]? = some (.cells #[.int .i64 (rd l2 (kk : Int)), v1, .int .i64 e] 79)) ∧ J0 (Kd.R k81 81 wr wo.heap.size (fun _ => True) v1 (armsUp e row b)) ∧ J0 (Kd.R (Kd.int .i64) 2 wr wo.heap.size (fun _ => True) (.slice A6 row.length c6) row) ∧ J0 (Below wo.heap.size wo wr))
          case atStart => exact ⟨0, _, rfl, by omega, by omega, B8, ⟨Kd.R_nil _ _ _ _ _⟩, HO, HW⟩
          case round =>
            clear B8 HO HW
            obtain ⟨b, v1, rfl, hb256, hgb, B8, HR, HO, HW⟩ := hrel
            obtain ⟨A7, c7, rfl⟩ := Kd.R_slice HR.o
            obtain ⟨hy0, hy1, hy2, hyf0, hyf1, hyf2⟩ := d3_ B8
            by_cases hlb : b < 256
            · have hltz : decide ((b : Int) < 256) = true := decide_eq_true (by omega)
              have hk0 : (0 : Int) ≤ (b : Int) := by omega
              have hkr : (b : Int) < (row.length : Int) := by rw [HLN.o]; omega
              obtain ⟨ad5, e5, hx5⟩ := Kd.at_int (Kd.R_reads' HO.o).2.2 (b : Int) hk0 hkr
              subst e5
              rw [Int.toNat_natCast] at hx5
              have hup : armsUp e row (b + 1) = armStep e (armsUp e row b) (b : Int) (rd row (b : Int)) := rfl
              have HAL := q_ (armsUp_length e row b)
              generalize hu2 : armsUp e row (b + 1) = arms2 at *
              have H2U := q_ hu2; clear hu2
              generalize armsUp e row b = arms at *
              generalize hxx : rd row (b : Int) = x at *
              have HX := q_ hxx; clear hxx
              have hal := HAL.o
              have hw : IntKind.i64.wrap ((arms.length : Int) - 1) = (arms.length : Int) - 1 := by rw [i64_w]; exact wrap_id (by omega) (by omega)
              have HUP := q_ hup
              have p5 := eq_true hk0; have q5 := eq_true hkr
              clear hup hal
              by_cases h1 : x = e
              · have d1 : (x == e) = true := beq_iff_eq.mpr h1
                have e2 : J0 (arms2 = arms) := ⟨by rw [HUP.o]; unfold armStep; rw [if_pos h1]⟩
                clear h1 HUP
                go_wp2_with fail
                go_quiet (fail)
                go_wp2_with fail
                go_roundg (256 - (b + 1))
                case measure => omega
                case rel => exact ⟨b + 1, _, by go_num, by omega, by omega, ⟨by first | exact B8.o | exact blk_drewN B8.o _⟩, ⟨by rw [H2U.o, e2.o]; first | exact HR.o | exact Kd.R_drewN HR.o⟩, ⟨by first | exact HO.o | exact Kd.R_drewN HO.o⟩, ⟨be_ HW.o⟩⟩
              have d1 : (x == e) = false := beq_eq_false_iff_ne.mpr h1
              by_cases h2 : arms.length = 0
              · obtain rfl : arms = [] := List.length_eq_zero_iff.1 h2
                have e2 : J0 (arms2 = ([] : List S81) ++ [⟨(b : Int), (b : Int), x⟩]) := ⟨by rw [HUP.o]; unfold armStep; rw [if_neg h1, if_neg (by omega)]⟩
                clear h1 HUP h2 hw
                go_wp2_with fail
                go_quiet (fail)
                generalize nq = n1
                go_wp2_with fail
                go_quiet (fail)
                generalize nq = n2
                go_wp2_with fail
                have HR1_ : J0 (Kd.R k81 81 ((wr.drewN n1).drewN n2).drew wo.heap.size (fun _ => True) (.slice A7 ([] : List S81).length c7) ([] : List S81)) := ⟨by (with_reducible repeat (first | apply Kd.R_drewN | apply Kd.R_drew)); exact HR.o⟩
                have HO1_ : J0 (Kd.R (Kd.int .i64) 2 ((wr.drewN n1).drewN n2).drew wo.heap.size (fun _ => True) (.slice (some ad5) row.length c6) row) := ⟨by (with_reducible repeat (first | apply Kd.R_drewN | apply Kd.R_drew)); exact HO.o⟩
                have B81_ : J0 (((wr.drewN n1).drewN n2).drew.heap[g8]? = some (.cells #[.int .i64 (rd l2 (kk : Int)), .slice A7 ([] : List S81).length c7, .int .i64 e] 79)) := ⟨blk_drew (blk_drewN (blk_drewN B8.o _) _)⟩
                have HW1_ : J0 (Below wo.heap.size wo ((wr.drewN n1).drewN n2).drew) := ⟨below_drew1 (pw_below_drewN (pw_below_drewN HW.o _) _)⟩
                have hx51 : ((wr.drewN n1).drewN n2).drew.cell? (ad5.add b) = some (.int .i64 x) := mv_ (below_drew1 (pw_below_drewN (pw_below_drewN (Below.refl wr.heap.size wr) _) _)) hx5
                clear HR HO B8 HW hx5
                have HR := HR1_; have HO := HO1_; have B8 := B81_; have HW := HW1_; have hx5 := hx51
                clear HR1_ HO1_ B81_ HW1_ hx51
                clear hy0 hy1 hy2 hyf0 hyf1 hyf2
                refine start_ (n := 13) (S := fun w' => w'.cell? ⟨g8, 1, none⟩ = some (.slice A7 ([] : List S81).length c7) ∧ w'.cell? (ad5.add b) = some (.int .i64 x)) (ds := [12]) (bb 13 0) (by kernel_rfl) rfl rfl ⟨(blk_cell B8.o 1).trans rfl, hx5⟩ (fun hS => ?_)
                generalize ((wr.drewN n1).drewN n2).drew = wd at HR HO B8 HW hx5 hS ⊢
                clear hx5
                refine pk_ 0 61 1 ?_; refine tk_ 1 62 3 hS ?_; refine pk_ 2 63 7 ?_; refine pk_ 3 64 15 ?_; refine pk_ 4 65 31 ?_; refine pk_ 5 66 63 ?_; refine pk_ 6 67 127 ?_; refine tk_ 7 68 255 hS ?_; refine pk_ 8 69 511 ?_
                refine one_ (i := 9) (N := some 70) (bb 13 1023) rfl rfl (by kernel_rfl) (by decide) (fun K hK => ?_)
                refine value_ (w1 := ?_) (v := ?_) (by rfl) rfl ?_ ?_
                rotate_left 2
                · go_simp
                  constructor
                  · rfl
                  · rfl
                have hb : ∀ o, Below wd.heap.size wd (wd.alloc o) := fun o => below_alloc (Below.refl _ _) o
                refine hK.out _ _ ⟨mv_ (hb _) hS.1, mv_ (hb _) hS.2⟩ (fun hS => ?_)
                clear hK K hb
                refine no_ (some 70) ?_
                refine one_ (i := 10) (N := some 71) (bb 13 2047) rfl rfl (by kernel_rfl) (by decide) (fun K hK => ?_)
                refine Kd.R_append_step k81 (w0 := wo) wo.heap.size (by rfl) (.tmp 62) (.tmp 70) 77 81 (.agg #[(.int .i64 0), (.int .i64 0), (.int .i64 0)]) 24 rfl Try.underlying77 infoArm_ rfl (by decide) (by omega) (.slice A7 ([] : List S81).length c7) ([] : List S81) (⟨(b : Int), (b : Int), x⟩ : S81) [.int .i64 (b : Int), .int .i64 (b : Int), .int .i64 x] (fun _ => True) (fun _ => False) rfl rfl ?aP (fun _ hk => hk.elim) ?aF ?aO ?aB ?aS ?aL ?_
                (case aP => exact k81_mkM _ _ _ (⟨(b : Int), (b : Int), x⟩ : S81))
                (case aF => exact (fun _ _ => trivial))
                (case aO => exact HR.o)
                (case aB => exact HW.o)
                (case aS => exact HW.o.size)
                (case aL => first | decide | (have := HAL.o; omega))
                intro v9 w9 ho hb hgr hat
                obtain ⟨A9, c9, rfl⟩ := Kd.R_slice ho
                have hln : (([] : List S81) ++ [(⟨(b : Int), (b : Int), x⟩ : S81)]).length = 1 := (by simp)
                rw [hln] at ho ⊢
                have HR2 := q_ ho; have HO2 := q_ (Kd.R_over' HO.o (Kd.R_typed HR.o) (by decide) hgr); have B82 := q_ (blk_grown B8.o hgr (Kd.R_ne HR.o B8.o (by decide))); have HW2 := q_ hb
                obtain ⟨ad6, e6, hx6⟩ := Kd.at_int (Kd.R_reads' HO2.o).2.2 (b : Int) hk0 hkr
                obtain rfl : ad5 = ad6 := by injection e6
                rw [Int.toNat_natCast, HX.o] at hx6
                refine hK.out _ _ ⟨(blk_cell B82.o 1).trans rfl, hx6⟩ (fun hS => ?_)
                clear hK K ho hb hgr hat hx6
                refine no_ (some 71) ?_
                refine pk_ 11 72 4095 ?_
                have hf1 := blk_frozen B82.o 1
                refine last_ (i := 12) (N := none) (bb 13 8191) rfl rfl (by kernel_rfl) (by decide) (fun K hK => ?_)
                refine skip_ (w1 := ?_) (by rfl) rfl ?_ ?_
                rotate_left
                · go_simp
                  rfl
                refine hK.out _ _ ?_
                clear hK K
                refine done_ (by kernel_rfl) ?_
                clear hf1 hS B8 HR HO HW hln
                go_wp2_with fail
                go_roundg (256 - (b + 1))
                case measure => omega
                case rel => exact ⟨b + 1, _, by go_num, by omega, by omega, ⟨blk_put B82.o 1 _ rfl⟩, ⟨by rw [H2U.o, e2.o]; exact Kd.R_set HR2.o B82.o (by decide) 1 _⟩, ⟨Kd.R_set HO2.o B82.o (by decide) 1 _⟩, ⟨below_set HW2.o G8.o⟩⟩
              · have hpos : 0 < arms.length := by omega
                obtain ⟨ad7, e7, hc0, hc1, hc2⟩ := at_T81 (Kd.R_reads' HR.o).2.2 ((arms.length : Int) - 1) (by omega) (by omega)
                subst e7
                rw [show ((arms.length : Int) - 1).toNat = arms.length - 1 by omega] at hc0 hc1 hc2
                have p1 := eq_true (show (0 : Int) ≤ (arms.length : Int) - 1 by omega); have q1 := eq_true (show (arms.length : Int) - 1 < (arms.length : Int) by omega)
                have d2 : decide ((arms.length : Int) > 0) = true := decide_eq_true (by omega)
                have hw2 : IntKind.i64.wrap ((b : Int) - 1) = (b : Int) - 1 := by rw [i64_w]; exact wrap_id (by omega) (by omega)
                have hup := HUP.o
                unfold armStep at hup
                rw [if_neg h1] at hup
                clear HUP
                generalize hyy : rd_T81 arms ((arms.length : Int) - 1) = y at *
                have HYY := q_ hyy; clear hyy
                by_cases h3 : y.f1 = (b : Int) - 1
                rotate_left
                · have d3 : (y.f1 == (b : Int) - 1) = false := beq_eq_false_iff_ne.mpr h3
                  have e2 : J0 (arms2 = arms ++ [⟨(b : Int), (b : Int), x⟩]) := ⟨by rw [hup, if_neg (by rintro ⟨_, h, _⟩; exact h3 h)]⟩
                  clear h1 h2 h3 hup
                  go_wp2_with fail
                  go_quiet (fail)
                  generalize nq = n1
                  go_wp2_with fail
                  go_quiet (fail)
                  generalize nq = n2
                  go_wp2_with fail
                  have HR1_ : J0 (Kd.R k81 81 ((wr.drewN n1).drewN n2).drew wo.heap.size (fun _ => True) (.slice (some ad7) arms.length c7) arms) := ⟨by (with_reducible repeat (first | apply Kd.R_drewN | apply Kd.R_drew)); exact HR.o⟩
                  have HO1_ : J0 (Kd.R (Kd.int .i64) 2 ((wr.drewN n1).drewN n2).drew wo.heap.size (fun _ => True) (.slice (some ad5) row.length c6) row) := ⟨by (with_reducible repeat (first | apply Kd.R_drewN | apply Kd.R_drew)); exact HO.o⟩
                  have B81_ : J0 (((wr.drewN n1).drewN n2).drew.heap[g8]? = some (.cells #[.int .i64 (rd l2 (kk : Int)), .slice (some ad7) arms.length c7, .int .i64 e] 79)) := ⟨blk_drew (blk_drewN (blk_drewN B8.o _) _)⟩
                  have HW1_ : J0 (Below wo.heap.size wo ((wr.drewN n1).drewN n2).drew) := ⟨below_drew1 (pw_below_drewN (pw_below_drewN HW.o _) _)⟩
                  have hx51 : ((wr.drewN n1).drewN n2).drew.cell? (ad5.add b) = some (.int .i64 x) := mv_ (below_drew1 (pw_below_drewN (pw_below_drewN (Below.refl wr.heap.size wr) _) _)) hx5
                  clear HR HO B8 HW hx5
                  have HR := HR1_; have HO := HO1_; have B8 := B81_; have HW := HW1_; have hx5 := hx51
                  clear HR1_ HO1_ B81_ HW1_ hx51
                  clear hy0 hy1 hy2 hyf0 hyf1 hyf2 hc0 hc1 hc2
                  refine start_ (n := 13) (S := fun w' => w'.cell? ⟨g8, 1, none⟩ = some (.slice (some ad7) arms.length c7) ∧ w'.cell? (ad5.add b) = some (.int .i64 x)) (ds := [12]) (bb 13 0) (by kernel_rfl) rfl rfl ⟨(blk_cell B8.o 1).trans rfl, hx5⟩ (fun hS => ?_)
                  generalize ((wr.drewN n1).drewN n2).drew = wd at HR HO B8 HW hx5 hS ⊢
                  clear hx5
                  refine pk_ 0 61 1 ?_; refine tk_ 1 62 3 hS ?_; refine pk_ 2 63 7 ?_; refine pk_ 3 64 15 ?_; refine pk_ 4 65 31 ?_; refine pk_ 5 66 63 ?_; refine pk_ 6 67 127 ?_; refine tk_ 7 68 255 hS ?_; refine pk_ 8 69 511 ?_
                  refine one_ (i := 9) (N := some 70) (bb 13 1023) rfl rfl (by kernel_rfl) (by decide) (fun K hK => ?_)
                  refine value_ (w1 := ?_) (v := ?_) (by rfl) rfl ?_ ?_
                  rotate_left 2
                  · go_simp
                    constructor
                    · rfl
                    · rfl
                  have hb : ∀ o, Below wd.heap.size wd (wd.alloc o) := fun o => below_alloc (Below.refl _ _) o
                  refine hK.out _ _ ⟨mv_ (hb _) hS.1, mv_ (hb _) hS.2⟩ (fun hS => ?_)
                  clear hK K hb
                  refine no_ (some 70) ?_
                  refine one_ (i := 10) (N := some 71) (bb 13 2047) rfl rfl (by kernel_rfl) (by decide) (fun K hK => ?_)
                  refine Kd.R_append_step k81 (w0 := wo) wo.heap.size (by rfl) (.tmp 62) (.tmp 70) 77 81 (.agg #[(.int .i64 0), (.int .i64 0), (.int .i64 0)]) 24 rfl Try.underlying77 infoArm_ rfl (by decide) (by omega) (.slice (some ad7) arms.length c7) arms (⟨(b : Int), (b : Int), x⟩ : S81) [.int .i64 (b : Int), .int .i64 (b : Int), .int .i64 x] (fun _ => True) (fun _ => False) rfl rfl ?aP (fun _ hk => hk.elim) ?aF ?aO ?aB ?aS ?aL ?_
                  (case aP => exact k81_mkM _ _ _ (⟨(b : Int), (b : Int), x⟩ : S81))
                  (case aF => exact (fun _ _ => trivial))
                  (case aO => exact HR.o)
                  (case aB => exact HW.o)
                  (case aS => exact HW.o.size)
                  (case aL => first | decide | (have := HAL.o; omega))
                  intro v9 w9 ho hb hgr hat
                  obtain ⟨A9, c9, rfl⟩ := Kd.R_slice ho
                  have hln : (arms ++ [(⟨(b : Int), (b : Int), x⟩ : S81)]).length = arms.length + 1 := (by simp)
                  rw [hln] at ho ⊢
                  have HR2 := q_ ho; have HO2 := q_ (Kd.R_over' HO.o (Kd.R_typed HR.o) (by decide) hgr); have B82 := q_ (blk_grown B8.o hgr (Kd.R_ne HR.o B8.o (by decide))); have HW2 := q_ hb
                  obtain ⟨ad6, e6, hx6⟩ := Kd.at_int (Kd.R_reads' HO2.o).2.2 (b : Int) hk0 hkr
                  obtain rfl : ad5 = ad6 := by injection e6
                  rw [Int.toNat_natCast, HX.o] at hx6
                  refine hK.out _ _ ⟨(blk_cell B82.o 1).trans rfl, hx6⟩ (fun hS => ?_)
                  clear hK K ho hb hgr hat hx6
                  refine no_ (some 71) ?_
                  refine pk_ 11 72 4095 ?_
                  have hf1 := blk_frozen B82.o 1
                  refine last_ (i := 12) (N := none) (bb 13 8191) rfl rfl (by kernel_rfl) (by decide) (fun K hK => ?_)
                  refine skip_ (w1 := ?_) (by rfl) rfl ?_ ?_
                  rotate_left
                  · go_simp
                    rfl
                  refine hK.out _ _ ?_
                  clear hK K
                  refine done_ (by kernel_rfl) ?_
                  clear hf1 hS B8 HR HO HW hln
                  go_wp2_with fail
                  go_roundg (256 - (b + 1))
                  case measure => omega
                  case rel => exact ⟨b + 1, _, by go_num, by omega, by omega, ⟨blk_put B82.o 1 _ rfl⟩, ⟨by rw [H2U.o, e2.o]; exact Kd.R_set HR2.o B82.o (by decide) 1 _⟩, ⟨Kd.R_set HO2.o B82.o (by decide) 1 _⟩, ⟨below_set HW2.o G8.o⟩⟩
                by_cases h4 : y.f2 = x
                rotate_left
                · have d3 : (y.f1 == (b : Int) - 1) = true := beq_iff_eq.mpr h3
                  have d4 : (y.f2 == x) = false := beq_eq_false_iff_ne.mpr h4
                  have e2 : J0 (arms2 = arms ++ [⟨(b : Int), (b : Int), x⟩]) := ⟨by rw [hup, if_neg (by rintro ⟨_, _, h⟩; exact h4 h)]⟩
                  clear h1 h2 h3 h4 hup
                  go_wp2_with fail
                  go_quiet (fail)
                  generalize nq = n1
                  go_wp2_with fail
                  go_quiet (fail)
                  generalize nq = n2
                  go_wp2_with fail
                  have HR1_ : J0 (Kd.R k81 81 ((wr.drewN n1).drewN n2).drew wo.heap.size (fun _ => True) (.slice (some ad7) arms.length c7) arms) := ⟨by (with_reducible repeat (first | apply Kd.R_drewN | apply Kd.R_drew)); exact HR.o⟩
                  have HO1_ : J0 (Kd.R (Kd.int .i64) 2 ((wr.drewN n1).drewN n2).drew wo.heap.size (fun _ => True) (.slice (some ad5) row.length c6) row) := ⟨by (with_reducible repeat (first | apply Kd.R_drewN | apply Kd.R_drew)); exact HO.o⟩
                  have B81_ : J0 (((wr.drewN n1).drewN n2).drew.heap[g8]? = some (.cells #[.int .i64 (rd l2 (kk : Int)), .slice (some ad7) arms.length c7, .int .i64 e] 79)) := ⟨blk_drew (blk_drewN (blk_drewN B8.o _) _)⟩
                  have HW1_ : J0 (Below wo.heap.size wo ((wr.drewN n1).drewN n2).drew) := ⟨below_drew1 (pw_below_drewN (pw_below_drewN HW.o _) _)⟩
                  have hx51 : ((wr.drewN n1).drewN n2).drew.cell? (ad5.add b) = some (.int .i64 x) := mv_ (below_drew1 (pw_below_drewN (pw_below_drewN (Below.refl wr.heap.size wr) _) _)) hx5
                  clear HR HO B8 HW hx5
                  have HR := HR1_; have HO := HO1_; have B8 := B81_; have HW := HW1_; have hx5 := hx51
                  clear HR1_ HO1_ B81_ HW1_ hx51
                  clear hy0 hy1 hy2 hyf0 hyf1 hyf2 hc0 hc1 hc2
                  refine start_ (n := 13) (S := fun w' => w'.cell? ⟨g8, 1, none⟩ = some (.slice (some ad7) arms.length c7) ∧ w'.cell? (ad5.add b) = some (.int .i64 x)) (ds := [12]) (bb 13 0) (by kernel_rfl) rfl rfl ⟨(blk_cell B8.o 1).trans rfl, hx5⟩ (fun hS => ?_)
                  generalize ((wr.drewN n1).drewN n2).drew = wd at HR HO B8 HW hx5 hS ⊢
                  clear hx5
                  refine pk_ 0 61 1 ?_; refine tk_ 1 62 3 hS ?_; refine pk_ 2 63 7 ?_; refine pk_ 3 64 15 ?_; refine pk_ 4 65 31 ?_; refine pk_ 5 66 63 ?_; refine pk_ 6 67 127 ?_; refine tk_ 7 68 255 hS ?_; refine pk_ 8 69 511 ?_
                  refine one_ (i := 9) (N := some 70) (bb 13 1023) rfl rfl (by kernel_rfl) (by decide) (fun K hK => ?_)
                  refine value_ (w1 := ?_) (v := ?_) (by rfl) rfl ?_ ?_
                  rotate_left 2
                  · go_simp
                    constructor
                    · rfl
                    · rfl
                  have hb : ∀ o, Below wd.heap.size wd (wd.alloc o) := fun o => below_alloc (Below.refl _ _) o
                  refine hK.out _ _ ⟨mv_ (hb _) hS.1, mv_ (hb _) hS.2⟩ (fun hS => ?_)
                  clear hK K hb
                  refine no_ (some 70) ?_
                  refine one_ (i := 10) (N := some 71) (bb 13 2047) rfl rfl (by kernel_rfl) (by decide) (fun K hK => ?_)
                  refine Kd.R_append_step k81 (w0 := wo) wo.heap.size (by rfl) (.tmp 62) (.tmp 70) 77 81 (.agg #[(.int .i64 0), (.int .i64 0), (.int .i64 0)]) 24 rfl Try.underlying77 infoArm_ rfl (by decide) (by omega) (.slice (some ad7) arms.length c7) arms (⟨(b : Int), (b : Int), x⟩ : S81) [.int .i64 (b : Int), .int .i64 (b : Int), .int .i64 x] (fun _ => True) (fun _ => False) rfl rfl ?aP (fun _ hk => hk.elim) ?aF ?aO ?aB ?aS ?aL ?_
                  (case aP => exact k81_mkM _ _ _ (⟨(b : Int), (b : Int), x⟩ : S81))
                  (case aF => exact (fun _ _ => trivial))
                  (case aO => exact HR.o)
                  (case aB => exact HW.o)
                  (case aS => exact HW.o.size)
                  (case aL => first | decide | (have := HAL.o; omega))
                  intro v9 w9 ho hb hgr hat
                  obtain ⟨A9, c9, rfl⟩ := Kd.R_slice ho
                  have hln : (arms ++ [(⟨(b : Int), (b : Int), x⟩ : S81)]).length = arms.length + 1 := (by simp)
                  rw [hln] at ho ⊢
                  have HR2 := q_ ho; have HO2 := q_ (Kd.R_over' HO.o (Kd.R_typed HR.o) (by decide) hgr); have B82 := q_ (blk_grown B8.o hgr (Kd.R_ne HR.o B8.o (by decide))); have HW2 := q_ hb
                  obtain ⟨ad6, e6, hx6⟩ := Kd.at_int (Kd.R_reads' HO2.o).2.2 (b : Int) hk0 hkr
                  obtain rfl : ad5 = ad6 := by injection e6
                  rw [Int.toNat_natCast, HX.o] at hx6
                  refine hK.out _ _ ⟨(blk_cell B82.o 1).trans rfl, hx6⟩ (fun hS => ?_)
                  clear hK K ho hb hgr hat hx6
                  refine no_ (some 71) ?_
                  refine pk_ 11 72 4095 ?_
                  have hf1 := blk_frozen B82.o 1
                  refine last_ (i := 12) (N := none) (bb 13 8191) rfl rfl (by kernel_rfl) (by decide) (fun K hK => ?_)
                  refine skip_ (w1 := ?_) (by rfl) rfl ?_ ?_
                  rotate_left
                  · go_simp
                    rfl
                  refine hK.out _ _ ?_
                  clear hK K
                  refine done_ (by kernel_rfl) ?_
                  clear hf1 hS B8 HR HO HW hln
                  go_wp2_with fail
                  go_roundg (256 - (b + 1))
                  case measure => omega
                  case rel => exact ⟨b + 1, _, by go_num, by omega, by omega, ⟨blk_put B82.o 1 _ rfl⟩, ⟨by rw [H2U.o, e2.o]; exact Kd.R_set HR2.o B82.o (by decide) 1 _⟩, ⟨Kd.R_set HO2.o B82.o (by decide) 1 _⟩, ⟨below_set HW2.o G8.o⟩⟩
                · have d3 : (y.f1 == (b : Int) - 1) = true := beq_iff_eq.mpr h3
                  have d4 : (y.f2 == x) = true := beq_iff_eq.mpr h4
                  have e2 : J0 (arms2 = arms.set (arms.length - 1) ⟨y.f0, (b : Int), y.f2⟩) := ⟨by rw [hup, if_pos ⟨hpos, h3, h4⟩]⟩
                  have H0 : J0 (0 < arms.length) := ⟨hpos⟩
                  clear h1 h2 h3 h4 hup
                  go_wp2_with fail
                  go_quiet (fail)
                  generalize nq = n1
                  go_wp2_with fail
                  go_quiet (fail)
                  generalize nq = n2
                  have HR1_ : J0 (Kd.R k81 81 ((wr.drewN n1).drewN n2) wo.heap.size (fun _ => True) (.slice (some ad7) arms.length c7) arms) := ⟨by (with_reducible repeat (first | apply Kd.R_drewN | apply Kd.R_drew)); exact HR.o⟩
                  have HO1_ : J0 (Kd.R (Kd.int .i64) 2 ((wr.drewN n1).drewN n2) wo.heap.size (fun _ => True) (.slice (some ad5) row.length c6) row) := ⟨by (with_reducible repeat (first | apply Kd.R_drewN | apply Kd.R_drew)); exact HO.o⟩
                  have B81_ : J0 (((wr.drewN n1).drewN n2).heap[g8]? = some (.cells #[.int .i64 (rd l2 (kk : Int)), .slice (some ad7) arms.length c7, .int .i64 e] 79)) := ⟨blk_drewN (blk_drewN B8.o _) _⟩
                  have HW1_ : J0 (Below wo.heap.size wo ((wr.drewN n1).drewN n2)) := ⟨pw_below_drewN (pw_below_drewN HW.o _) _⟩
                  clear HR HO B8 HW hx5 hy0 hy1 hy2 hyf0 hyf1 hyf2 hc0 hc1 hc2 d3 d4 d1
                  generalize ((wr.drewN n1).drewN n2) = wd at *
                  have HR := HR1_; have HO := HO1_; have B8 := B81_; have HW := HW1_
                  clear HR1_ HO1_ B81_ HW1_
                  obtain ⟨hy0, hy1, hy2, hyf0, hyf1, hyf2⟩ := d3_ B8
                  obtain ⟨g9, cap9, hv, hg9, _, _⟩ := Kd.R_form HR.o H0.o
                  obtain rfl : ad7 = ⟨g9, 0, none⟩ := by injection hv with h; injection h
                  obtain ⟨cs, hcl, hM, hcc, hfr⟩ := Kd.R_elem HR.o z81 ((arms.length : Int) - 1) (by omega) (by omega)
                  have hM : (k81).M wd wo.heap.size (fun k => True ∧ k ≠ g9) y cs := by rw [← HYY.o]; exact hM
                  obtain rfl := k81_openM hM
                  have HSG := q_ (Kd.R_seg HR.o ((arms.length : Int) - 1) (by omega) (by omega) (seg := [.int .i64 (b : Int)]) (j := 1) hcl hcc (show 1 + 1 ≤ 3 by decide) (x' := (⟨y.f0, (b : Int), y.f2⟩ : S81)) (k81_mkM wd wo.heap.size (fun k => True ∧ k ≠ g9) (⟨y.f0, (b : Int), y.f2⟩ : S81)) (fun _ hk => hk))
                  have hf : wd.frozen? ⟨g9, (arms.length - 1) * 3 + 1, none⟩ = false := by have h := hfr 1; rwa [show ((arms.length : Int) - 1).toNat = arms.length - 1 by omega] at h
                  have hc1' : wd.cell? ⟨g9, (arms.length - 1) * 3 + 1, none⟩ = some (.int .i64 y.f1) := by have h := hcc 1 _ rfl; rwa [show ((arms.length : Int) - 1).toNat = arms.length - 1 by omega] at h
                  have G9 := q_ hg9
                  clear hv hg9 hM hcc hfr hcl
                  go_wp2
                  go_roundg (256 - (b + 1))
                  case measure => omega
                  case rel =>
                    obtain ⟨hs1_, hs2_⟩ := HSG.o
                    rw [show ((arms.length : Int) - 1).toNat = arms.length - 1 by have := H0.o; omega] at hs1_ hs2_
                    exact ⟨b + 1, _, by go_num, by omega, by omega, ⟨blk_grown B8.o hs2_ (Kd.R_ne HR.o B8.o (by decide))⟩, ⟨by rw [H2U.o, e2.o]; exact hs1_⟩, ⟨Kd.R_over' HO.o (Kd.R_typed HR.o) (by decide) hs2_⟩, ⟨below_set HW.o G9.o⟩⟩
            · have e256 : b = 256 := by omega
              subst e256
              have hltz : decide (((256 : Nat) : Int) < 256) = false := by decide
              clear hgb hb256 hlb
              generalize armsUp e row 256 = arms at *
              have B4w := q_ (blk_below B4.o HW.o)
              have BK1w := q_ (blk_below BK1.o HW.o)
              have BRw := q_ (blk_below BR.o HW.o)
              obtain ⟨hq0, hqf⟩ := d1_ B4w
              have HAw := q_ (Kd.S_below (Kd.S_mono (Kd.S_bound HA.o) (ok' := fun k => True ∧ ¬ wo.heap.size ≤ k) fun k hk => ⟨trivial, Nat.not_le.2 hk.2.2.1⟩) HW.o)
              have HL0 := q_ (Kd.S_lt HA.o)
              have HBw := q_ (below_step HB.o HW.o)
              have HV : J0 (Kd.R k81 81 wr w.heap.size (fun k => wo.heap.size ≤ k) (.slice A7 arms.length c7) arms) := ⟨Kd.R_lower (Kd.R_mono (Kd.R_bound HR.o) fun k hk => hk.2.1) HB.o.size⟩
              generalize rd l2 (kk : Int) = ac at *
              clear HR HO
              go_wp2_with (first | ((with_reducible refine gate_builtin (b := .append) (xs := #[.tmp 118, .tmp 120]) rfl ?_); at_builtin; refine Kd.S_append k79 (w0 := w) w.heap.size rfl (.tmp 118) (.tmp 120) 27 79 (.agg #[(.int .i64 0), (.slice none 0 0), (.int .i64 0)]) 40 rfl Try.underlying27 infoCBlockS_ rfl (by decide) (by omega) (.slice A8 code.length c8) code (⟨ac, arms, e⟩ : S79) [.int .i64 ac, .slice A7 arms.length c7, .int .i64 e] (fun _ => True) (fun k => wo.heap.size ≤ k) rfl rfl ?aP ?aQ ?aF HAw.o HBw.o (below_size HBw.o) ?aL ?_; (case aP => exact k79_mkM _ _ _ (⟨ac, arms, e⟩ : S79) HV.o); (case aQ => exact fun k hk => ⟨trivial, fun e => Nat.not_lt.2 hk (HL0.o k e.symm)⟩); (case aF => exact fun k hk => trivial); (case aL => rw [HCL.o]; omega); intro v9 w9 ho hb hgr hat; have B4n := q_ (blk_grown B4w.o hgr (Kd.S_ne HAw.o B4w.o (by decide))); have BK1n := q_ (blk_grown BK1w.o hgr (Kd.S_ne HAw.o BK1w.o (by decide))); have BRn := q_ (blk_grown BRw.o hgr (Kd.S_ne HAw.o BRw.o (by decide))); obtain ⟨A9, c9, e9⟩ := Kd.S_slice ho; subst e9; have hln : (code ++ [(⟨ac, arms, e⟩ : S79)]).length = code.length + 1 := (by simp); rw [hln] at ho ⊢; have HAn := q_ ho; have HBn := q_ hb; clear ho hb hgr hat hln hq0 hqf; obtain ⟨hq0, hqf⟩ := d1_ B4n))
              go_roundg (l1.length - (kk + 1))
              case measure => omega
              case rel => exact ⟨kk + 1, _, by go_num, by omega, by omega, ⟨blk_put B4n.o 0 _ rfl⟩, ⟨by rw [HCU.o, HSC.o]; exact Kd.S_set HAn.o B4n.o (by decide) 0 _⟩, ⟨blk_far BK1n.o N1.o _⟩, ⟨blk_far BRn.o NR.o _⟩, ⟨below_set HBn.o G4.o⟩⟩
    · have e1 : kk = l1.length := by omega
      subst e1
      have hltz : decide ((l1.length : Int) < (l1.length : Int)) = false := decide_eq_false (by omega)
      obtain ⟨hy0, hyf⟩ := d1_ B4; obtain ⟨hrz0, hrf0⟩ := d1_ BR
      have HCL := q_ (codeG_length l0 l1 l2 l1.length)
      clear hgg hkk hlt
      go_wp2
      refine bodyPost_ret (results_ct rfl _ _ gr 29 #[.slice A8 (codeG l0 l1 l2 l1.length).length c8] (0, 0) _ rfl (blk_put BR.o 0 _ rfl) Try.underlying29 rfl (by kernel_rfl)) rfl ?_
      exact ⟨_, rfl, Kd.S_set HA.o BR.o (by decide) 0 _, below_set HB.o GR.o⟩
theorem GenCodeS_hand (A0 A1 A2 : Option Addr) (c0 c1 c2 : Nat) (l0 : List Int) (l1 : List (List Int)) (l2 : List Int) (k : Nat) (hk : spec_DfaOk.f k l0 l1 l2 = some (dfaB l0 l1 l2)) (hdef : dfaB l0 l1 l2 = true → ∀ s, s < l1.length → spec_l10Default.f k (rowG l0 l1 (s : Int) 256) l1.length = some (bestR (rowG l0 l1 (s : Int) 256) l1.length)) (w : World) (hr0 : Kd.C (Kd.int .i64) w A0 l0.length l0) (hc0 : l0.length ≤ c0) (hr1 : Kd.C (Kd.slice 2 (Kd.int .i64)) w A1 l1.length l1) (hc1 : l1.length ≤ c1) (hr2 : Kd.C (Kd.int .i64) w A2 l2.length l2) (hc2 : l2.length ≤ c2) :
    Calls Try.prog 9 #[.agg #[.slice A0 l0.length c0, .slice A1 l1.length c1, .slice A2 l2.length c2]] w fun e w' => ∃ v, e = .returned (.tuple #[.agg #[v], .bool (dfaB l0 l1 l2)]) ∧ Kd.S k79 79 w' w.heap.size (fun _ => True) v (if dfaB l0 l1 l2 = true then codeG l0 l1 l2 l1.length else []) ∧ Below w.heap.size w w' := by
  by_cases h : dfaB l0 l1 l2 = true
  · rw [if_pos h, h]
    exact GenCodeS_some A0 A1 A2 c0 c1 c2 l0 l1 l2 k (by rw [hk, h]) h (hdef h) w hr0 hc0 hr1 hc1 hr2 hc2
  · have h := Bool.not_eq_true _ ▸ h
    rw [h, if_neg (by decide)]
    refine (GenCodeS_none A0 A1 A2 c0 c1 c2 l0 l1 l2 k (by rw [hk, h]) w hr0 hc0 hr1 hc1 hr2 hc2).mono ?_
    rintro e w' ⟨rfl, hb⟩
    exact ⟨_, rfl, Kd.S_nil _ _ _ _ _, hb⟩
end Go.Proofs.Ytlecpdpdcocibaa.P
namespace Go.Proofs.Ytlecpdpdcocibaa.P
open Go.RowKit Go.Proofs.YtlecpdpdcocibaaW.PrintWords Go.Proofs.YtlecpdpdcocibaaW.PrintLast Go.Proofs.YtlecpdpdcocibaaW.PrintMore
attribute [local go_sem] max2_int min2_int max_two min_two max_three min_three max_four min_four
set_option linter.unusedVariables false
set_option linter.unusedSimpArgs false
/-! ### spec_GenCode: function 9 -/
def spec_GenCode.f (k : Nat) (l0_0 : List Int) (l0_1 : List (List Int)) (l0_2 : List Int) : Option (List S79 × Bool) := if spec_DfaOk.f k l0_0 l0_1 l0_2 = some (dfaB l0_0 l0_1 l0_2) ∧ (dfaB l0_0 l0_1 l0_2 = true → ∀ s, s < l0_1.length → spec_l10Default.f k (rowG l0_0 l0_1 (s : Int) 256) l0_1.length = some (bestR (rowG l0_0 l0_1 (s : Int) 256) l0_1.length)) then some (if dfaB l0_0 l0_1 l0_2 = true then codeG l0_0 l0_1 l0_2 l0_1.length else [], dfaB l0_0 l0_1 l0_2) else none
theorem spec_GenCode.calls (k : Nat) (A0_0 : Option Addr) (c0_0 : Nat) (l0_0 : List Int) (A0_1 : Option Addr) (c0_1 : Nat) (l0_1 : List (List Int)) (A0_2 : Option Addr) (c0_2 : Nat) (l0_2 : List Int) (r1 : List S79) (r2 : Bool) (w : World) (hr0_0 : Kd.C (Kd.int .i64) w A0_0 l0_0.length l0_0) (hc0_0 : l0_0.length ≤ c0_0) (hr0_1 : Kd.C (Kd.slice 2 (Kd.int .i64)) w A0_1 l0_1.length l0_1) (hc0_1 : l0_1.length ≤ c0_1) (hr0_2 : Kd.C (Kd.int .i64) w A0_2 l0_2.length l0_2) (hc0_2 : l0_2.length ≤ c0_2) (h : spec_GenCode.f k l0_0 l0_1 l0_2 = some (r1, r2)) :
    Calls Try.prog 9 #[.agg #[.slice A0_0 l0_0.length c0_0, .slice A0_1 l0_1.length c0_1, .slice A0_2 l0_2.length c0_2]] w fun e w' => ∃ v0_ : Value, e = .returned (.tuple #[.agg #[v0_], .bool r2]) ∧ Kd.S k79 79 w' w.heap.size (fun _ => True) v0_ r1 ∧ Below w.heap.size w w' := by
  unfold spec_GenCode.f at h
  split at h
  · rename_i hk
    have h := Option.some.inj h
    injection h with h1 h2
    subst h1 h2
    exact GenCodeS_hand A0_0 A0_1 A0_2 c0_0 c0_1 c0_2 l0_0 l0_1 l0_2 k hk.1 hk.2 w hr0_0 hc0_0 hr0_1 hc0_1 hr0_2 hc0_2
  · simp at h
end Go.Proofs.Ytlecpdpdcocibaa.P
namespace Go.Proofs.Ytlecpdpdcocibaa.P
open Go.RowKit Go.Proofs.YtlecpdpdcocibaaW.PrintWords Go.Proofs.YtlecpdpdcocibaaW.PrintLast Go.Proofs.YtlecpdpdcocibaaEv
set_option linter.unusedVariables false
set_option linter.unusedSimpArgs false
def genC (l0 : List Int) (l1 : List (List Int)) (l2 : List Int) : List S79 := if dfaB l0 l1 l2 = true then codeG l0 l1 l2 l1.length else []
theorem impl_GenCode_ev (l0 : List Int) (l1 : List (List Int)) (l2 : List Int) (hl : l0.length ≤ 1048576) : Ev (fun k => impl_GenCode.f k l0 l1 l2) (genC l0 l1 l2, dfaB l0 l1 l2) := by
  obtain ⟨k0, h0⟩ := impl_blocksOk_ev l0 hl
  refine ⟨k0, fun k hk => ?_⟩
  exact if_pos (h0 k hk)
theorem spec_GenCode_ev (l0 : List Int) (l1 : List (List Int)) (l2 : List Int) (hl : l0.length ≤ 1048576) : Ev (fun k => spec_GenCode.f k l0 l1 l2) (genC l0 l1 l2, dfaB l0 l1 l2) := by
  obtain ⟨k0, h0⟩ := spec_DfaOk_ev l0 l1 l2 hl
  have hd : ∀ n, dfaB l0 l1 l2 = true → n ≤ l1.length → ∃ k1, ∀ k, k1 ≤ k → ∀ s, s < n → spec_l10Default.f k (rowG l0 l1 (s : Int) 256) l1.length = some (bestR (rowG l0 l1 (s : Int) 256) l1.length) := by
    intro n hb
    obtain ⟨m, hD⟩ := dfaB_true hb
    induction n with
    | zero => exact fun _ => ⟨0, fun k _ s hs => absurd hs (Nat.not_lt_zero _)⟩
    | succ n ih =>
      intro hn
      obtain ⟨k1, h1⟩ := ih (by omega)
      obtain ⟨k2, h2⟩ := spec_l10Default_ev (rowG l0 l1 (n : Int) 256) l1.length hD.rows (by rw [rowG_length]; omega) (hD.to_ _ (by omega) (by omega))
      refine ⟨max k1 k2, fun k hk s hs => ?_⟩
      by_cases e : s = n
      · subst e
        exact h2 k (by omega)
      · exact h1 k (by omega) s (by omega)
  by_cases hb : dfaB l0 l1 l2 = true
  · obtain ⟨k1, h1⟩ := hd l1.length hb (Nat.le_refl _)
    refine ⟨max k0 k1, fun k hk => ?_⟩
    exact if_pos (show _ ∧ _ from ⟨h0 k (by omega), fun _ => h1 k (by omega)⟩)
  · refine ⟨k0, fun k hk => ?_⟩
    exact if_pos (show _ ∧ _ from ⟨h0 k hk, fun h => absurd h hb⟩)
theorem genC_length (l0 : List Int) (l1 : List (List Int)) (l2 : List Int) : (genC l0 l1 l2).length ≤ 1000 := by
  unfold genC
  split
  · rename_i h
    obtain ⟨m, hD⟩ := dfaB_true h
    rw [codeG_length]
    exact hD.rows.2
  · simp
theorem genC_arms (l0 : List Int) (l1 : List (List Int)) (l2 : List Int) : ∀ x ∈ genC l0 l1 l2, x.f1.length ≤ 256 := by
  unfold genC
  split
  · intro x hx
    obtain ⟨s, _, rfl⟩ := List.mem_map.1 hx
    exact armsUp_length _ _ 256
  · intro x hx
    simp at hx
theorem genC_h (l0 : List Int) (l1 : List (List Int)) (l2 : List Int) : ∀ x ∈ genC l0 l1 l2, h79 x := fun x hx => Nat.le_trans (genC_arms l0 l1 l2 x hx) (by omega)
theorem cntB_few : ∀ l : List S79, (∀ x ∈ l, x.f1.length ≤ 256) → cntB l ≤ 770 * l.length
  | [], _ => Nat.le_refl _
  | x :: xs, h => by
    have h1 := cntB_few xs (fun e he => h e (List.mem_cons_of_mem _ he))
    have h2 := h x (List.mem_cons_self ..)
    simp only [cntB, mcB, List.length_cons]
    omega
theorem genC_cnt (l0 : List Int) (l1 : List (List Int)) (l2 : List Int) : cntB (genC l0 l1 l2) ≤ 770000 := by
  have h1 := cntB_few _ (genC_arms l0 l1 l2)
  have h2 := genC_length l0 l1 l2
  omega
theorem nm_ws : ∀ l : List (List Int), sumN nm_Int64S l = ws List.length l
  | [] => rfl
  | x :: xs => by
    have h := nm_ws xs
    simp only [sumN, nm_Int64S, sum1, h, ws, List.map_cons, List.sum_cons]
end Go.Proofs.Ytlecpdpdcocibaa.P
namespace Go.Proofs.Ytlecpdpdcocibaa.P
open Go.RowKit Go.Proofs.YtlecpdpdcocibaaW.PrintWords Go.Proofs.YtlecpdpdcocibaaW.PrintLast Go.Proofs.YtlecpdpdcocibaaW.PrintMore Go.Proofs.YtlecpdpdcocibaaEv
set_option linter.unusedVariables false
set_option linter.unusedSimpArgs false
theorem markCode_walk (P0_ : Nat → Prop) (A : Option Addr) (n c : Nat) (l0 : List S79) (a1 : Int) (h0 : 0 ≤ a1) (h1 : a1 + cntB l0 ≤ 9000000000000000000) (hlen : (l0.length : Int) ≤ 9000000000000000000) (w0 w : World) (hB : Below w0.heap.size w0 w) (ho0 : Kd.S k79 79 w w0.heap.size P0_ (.slice A n c) l0) :
    Calls Try.prog 15 #[.agg #[.slice A n c], .int .i64 a1] w fun e w' => e = .returned (.int .i64 (a1 + cntB l0)) ∧ Kd.S k79 79 w' w0.heap.size P0_ (.slice A n c) (mkBs l0 a1) ∧ Below w0.heap.size w0 w' ∧ Kept w w' P0_ := by
  have HO := q_ ho0
  have HB := q_ hB
  clear ho0 hB
  go_enter Try.func15, Try.ntmps15
  go_wp2_with fail
  refine (markCBlockS_walk P0_ _ l0 a1 h0 h1 hlen w0 _ ?hb ?ho).mono ?_
  case hb => repeat (first | exact HB.o | apply below_alloc | apply pw_below_drewN | apply below_drew1)
  case ho => (with_reducible repeat (first | apply Kd.S_alloc | apply Kd.S_drewN | apply Kd.S_drew)); exact HO.o
  rintro e w1 ⟨rfl, hS, hB2, hK⟩
  have HS := q_ hS
  have HB2 := q_ hB2
  have HK : J0 (Kept w w1 P0_) := ⟨Kept.then_ (by repeat (first | exact Kept.refl _ _ | apply Kept.alloc | apply Kept.drewN | apply Kept.drew)) hK (fun k hk => .inl hk)⟩
  clear hS hB2 hK
  go_wp2_with fail
  go_ret
  exact ⟨rfl, HS.o, HB2.o, HK.o⟩
section
variable {α β γ : Type} {d : Kd α} {d2 : Kd β} {d3 : Kd γ} {e e2 e3 : Nat} {v v2 v3 : Value} {xs : List α} {ys : List β} {zs : List γ} {P P2 P3 : Nat → Prop}
theorem RSR_born {wp wn w0 : World} (h : Kd.R d e wn wp.heap.size P v xs) (h2 : Kd.S d2 e2 wn wp.heap.size P2 v2 ys) (h3 : Kd.R d3 e3 wn wp.heap.size P3 v3 zs) (hb : Below w0.heap.size w0 wp) : ∃ lo hi, (lo = wp.heap.size ∧ hi = wn.heap.size) ∧ Kd.R d e wn w0.heap.size (Rg lo hi) v xs ∧ Kd.S d2 e2 wn w0.heap.size (Rg lo hi) v2 ys ∧ Kd.R d3 e3 wn w0.heap.size (Rg lo hi) v3 zs :=
  ⟨_, _, ⟨rfl, rfl⟩, Kd.R_lower (Kd.R_mono (Kd.R_bound h) fun _ hk => ⟨hk.2.1, hk.2.2.1⟩) hb.size, Kd.S_lower (Kd.S_mono (Kd.S_bound h2) fun _ hk => ⟨hk.2.1, hk.2.2.1⟩) hb.size, Kd.R_lower (Kd.R_mono (Kd.R_bound h3) fun _ hk => ⟨hk.2.1, hk.2.2.1⟩) hb.size⟩
theorem len_Sg {w : World} {base : Nat} {e : Nat} {A : Option Addr} {n c f : Nat} {x : Value} {Pr : Program} {Q : Ending → World → Prop} {w2 : World} (h : Kd.S d e w base P (.slice A n c) xs) (hc : Calls Pr f #[.agg #[.slice A xs.length c], x] w2 Q) : Calls Pr f #[.agg #[.slice A n c], x] w2 Q := by
  rw [(Kd.S_reads' h).1]
  exact hc
end
end Go.Proofs.Ytlecpdpdcocibaa.P
set_option linter.unusedVariables false
set_option linter.unusedSimpArgs false
namespace Go.Proofs.Ytlecpdpdcocibaa.P
open Go.RowKit Go.Proofs.YtlecpdpdcocibaaW.PrintWords Go.Proofs.YtlecpdpdcocibaaW.PrintLast Go.Proofs.YtlecpdpdcocibaaW.PrintMore Go.Proofs.YtlecpdpdcocibaaEv
def laws_FnExactGenCode.dom_ (l0_0 : List Int) (l0_1 : List (List Int)) (l0_2 : List Int) : Prop := (l0_0.length ≤ maxLen ∧ (l0_1.length ≤ maxLen ∧ ∀ y ∈ l0_1, y.length ≤ maxLen) ∧ l0_2.length ≤ maxLen)
open Classical in
noncomputable def laws_FnExactGenCode.f (k : Nat) (l0_0 : List Int) (l0_1 : List (List Int)) (l0_2 : List Int) : Option Bool := if laws_FnExactGenCode.dom_ l0_0 l0_1 l0_2 then some true else none
theorem laws_FnExactGenCode.calls (k : Nat) (A0_0 : Option Addr) (c0_0 : Nat) (l0_0 : List Int) (A0_1 : Option Addr) (c0_1 : Nat) (l0_1 : List (List Int)) (A0_2 : Option Addr) (c0_2 : Nat) (l0_2 : List Int) (r : Bool) (w : World) (hr0_0 : Kd.C (Kd.int .i64) w A0_0 l0_0.length l0_0) (hc0_0 : l0_0.length ≤ c0_0) (hr0_1 : Kd.C (Kd.slice 2 (Kd.int .i64)) w A0_1 l0_1.length l0_1) (hc0_1 : l0_1.length ≤ c0_1) (hr0_2 : Kd.C (Kd.int .i64) w A0_2 l0_2.length l0_2) (hc0_2 : l0_2.length ≤ c0_2) (h : laws_FnExactGenCode.f k l0_0 l0_1 l0_2 = some r) :
  Calls Try.prog 3 #[.agg #[.slice A0_0 l0_0.length c0_0, .slice A0_1 l0_1.length c0_1, .slice A0_2 l0_2.length c0_2]] w fun e w' => e = .returned (.bool r) ∧ Below w.heap.size w w' := by
  have hok : laws_FnExactGenCode.dom_ l0_0 l0_1 l0_2 := by
    unfold laws_FnExactGenCode.f at h
    split at h
    · assumption
    · simp at h
  have hr : r = true := by
    unfold laws_FnExactGenCode.f at h
    rw [if_pos hok] at h
    simpa using h.symm
  subst hr
  clear h
  have HR_l0_0 := q_ hr0_0
  have HC_l0_0 := q_ hc0_0
  have HR_l0_1 := q_ hr0_1
  have HC_l0_1 := q_ hc0_1
  have HR_l0_2 := q_ hr0_2
  have HC_l0_2 := q_ hc0_2
  clear hr0_0 hc0_0 hr0_1 hc0_1 hr0_2 hc0_2
  have HB := q_ (Below.refl w.heap.size w)
  by_cases hsmall : szD l0_0 l0_1 l0_2 ≤ 1048576
  · obtain ⟨hm0, ⟨hm1, hg⟩, hm2⟩ := hok
    have hm0 := Nat.le_trans hm0 maxLen_le
    have hm1 := Nat.le_trans hm1 maxLen_le
    have hm2 := Nat.le_trans hm2 maxLen_le
    have hg : ∀ y ∈ l0_1, y.length ≤ 9223372036854775807 := fun y hy => Nat.le_trans (hg y hy) maxLen_le
    obtain ⟨_, g0⟩ := ev_get (laws_szDfa_ev l0_0 l0_1 l0_2 1048576 (by omega) (by omega) hm0 hm1 hm2 hg)
    rw [if_neg (by omega)] at g0
    obtain ⟨_, g1⟩ := ev_get (laws_toDfa_ev l0_0 l0_1 l0_2 hsmall)
    obtain ⟨_, g2⟩ := ev_get (spec_GenCode_ev l0_0 l0_1 l0_2 (by unfold szD at hsmall; omega))
    obtain ⟨_, g3⟩ := ev_get (impl_GenCode_ev l0_0 l0_1 l0_2 (by unfold szD at hsmall; omega))
    have hcl := genC_length l0_0 l0_1 l0_2
    have hcn := genC_cnt l0_0 l0_1 l0_2
    have hch := genC_h l0_0 l0_1 l0_2
    obtain ⟨C, hC⟩ : ∃ C, C = genC l0_0 l0_1 l0_2 := ⟨_, rfl⟩
    obtain ⟨b, hb_⟩ : ∃ b, b = dfaB l0_0 l0_1 l0_2 := ⟨_, rfl⟩
    rw [← hC] at g2 g3 hcl hcn hch
    rw [← hb_] at g2 g3
    clear hC hb_
    obtain ⟨_, g4⟩ := ev_get (laws_eqCode_ev C (by omega) hch)
    obtain ⟨_, g5⟩ := ev_get (laws_eqDfa_ev l0_0 l0_1 l0_2 hm0 hm1 hm2 hg)
    obtain ⟨_, g7⟩ := ev_get (laws_heldCode_ev C 1 (by omega) (by omega) (by omega))
    have hws : sumN nm_Int64S l0_1 = ws List.length l0_1 := nm_ws l0_1
    obtain ⟨M, hM⟩ : ∃ M : Nat, sumN nm_Int64S l0_1 = M := ⟨_, rfl⟩
    have n1 : decide ((1048576 : Int) - ((szD l0_0 l0_1 l0_2 : Nat) : Int) < 0) = false := decide_eq_false (by omega)
    have F0 : J0 ((1 : Int) + (l0_0.length : Nat) + (M : Nat) + (l0_2.length : Nat) ≤ 9000000000000000000) := ⟨by unfold szD at hsmall; omega⟩
    have n2 : decide ((1 : Int) + (l0_0.length : Nat) + (M : Nat) + (l0_2.length : Nat) < 0) = false := decide_eq_false (by omega)
    have F2 := q_ hM
    have F3 := q_ (by omega : (1 : Int) + cntB C ≤ 9000000000000000000)
    have F4 := q_ (by omega : (C.length : Int) ≤ 9000000000000000000)
    have n3 : decide ((1 : Int) + (cntB C : Int) < 0) = false := decide_eq_false (by omega)
    have n4 : (b != b) = false := bne_self_eq_false b
    have S0 := q_ (sum1 l0_0)
    have S2 := q_ (sum1 l0_2)
    have E0 := q_ g0
    have E1 := q_ g1
    have E2 := q_ g2
    have E3 := q_ g3
    have E4 := q_ g4
    have E5 := q_ g5
    have E7 := q_ g7
    clear g0 g1 g2 g3 g4 g5 g7 hcl hcn hch hm0 hm1 hm2 hg hws hM hsmall
    have T1 : J0 True := ⟨trivial⟩
    have T2 : J0 True := ⟨trivial⟩
    have T3 : J0 True := ⟨trivial⟩
    have T4 : J0 True := ⟨trivial⟩
    have T5 : J0 True := ⟨trivial⟩
    have T6 : J0 True := ⟨trivial⟩
    have T7 : J0 True := ⟨trivial⟩
    have T8 : J0 True := ⟨trivial⟩
    have T9 : J0 True := ⟨trivial⟩
    have T10 : J0 True := ⟨trivial⟩
    have T11 : J0 True := ⟨trivial⟩
    have T12 : J0 True := ⟨trivial⟩
    have T13 : J0 True := ⟨trivial⟩
    have T14 : J0 True := ⟨trivial⟩
    have T15 : J0 True := ⟨trivial⟩
    go_enter Try.func3, Try.ntmps3
    go_wp2_with ((with_reducible refine gate_dst (N := 1) rfl ?_); clear T1; refine box_event ?hg (N := 1) ?hd (cs := #[.slice A0_0 l0_0.length c0_0, .slice A0_1 l0_1.length c0_1, .slice A0_2 l0_2.length c0_2]) (t := 25) ?hr ?_; (case hd => rfl); (case hg => rfl); (case hr => first | (go_simp; done) | (go_simp; rfl)); intro gb_p0 hg w1 hbox hb; have BK_p0 := q_ hbox; have GB_p0 := q_ hg; have LB_p0 := q_ (blk_lt hbox); have Y1 := q_ hb.size; replace HB := sb_ HB hb; have hcz_p0_0 : w1.cell? ⟨gb_p0, 0, none⟩ = some (.slice A0_0 l0_0.length c0_0) := (blk_cell BK_p0.o 0).trans rfl; have hcz_p0_1 : w1.cell? ⟨gb_p0, 1, none⟩ = some (.slice A0_1 l0_1.length c0_1) := (blk_cell BK_p0.o 1).trans rfl; have hcz_p0_2 : w1.cell? ⟨gb_p0, 2, none⟩ = some (.slice A0_2 l0_2.length c0_2) := (blk_cell BK_p0.o 2).trans rfl; clear hb hg hbox)
    go_wp2_with (go_at_call 8; clear T2; refine (laws_szDfa.calls _ _ _ _ _ _ _ _ _ _ _ _ _ (Kd.C_below HR_l0_0.o HB.o) (HC_l0_0.o) (Kd.C_below HR_l0_1.o HB.o) (HC_l0_1.o) (Kd.C_below HR_l0_2.o HB.o) (HC_l0_2.o) E0.o).mono ?_; rintro e w2 ⟨rfl, hb⟩; replace BK_p0 := lb_ BK_p0 hb; replace hcz_p0_0 := (d3_ BK_p0).1; replace hcz_p0_1 : w2.cell? ⟨gb_p0, 1, none⟩ = some (.slice A0_1 l0_1.length c0_1) := (blk_cell BK_p0.o 1).trans rfl; replace hcz_p0_2 : w2.cell? ⟨gb_p0, 2, none⟩ = some (.slice A0_2 l0_2.length c0_2) := (blk_cell BK_p0.o 2).trans rfl; have Y2 := q_ hb.size; replace HB := sb_ HB hb; clear hb)
    go_wp2_with (go_at_call 10; clear T3; refine (laws_toDfa.calls _ _ _ _ _ _ _ _ _ _ _ _ _ _ (Kd.C_below HR_l0_0.o HB.o) (HC_l0_0.o) (Kd.C_below HR_l0_1.o HB.o) (HC_l0_1.o) (Kd.C_below HR_l0_2.o HB.o) (HC_l0_2.o) E1.o).mono ?_; rintro e w3 ⟨v_a0, v_a1, v_a2, rfl, hO, hO2, hO3, hb⟩; replace BK_p0 := lb_ BK_p0 hb; replace hcz_p0_0 := (d3_ BK_p0).1; replace hcz_p0_1 : w3.cell? ⟨gb_p0, 1, none⟩ = some (.slice A0_1 l0_1.length c0_1) := (blk_cell BK_p0.o 1).trans rfl; replace hcz_p0_2 : w3.cell? ⟨gb_p0, 2, none⟩ = some (.slice A0_2 l0_2.length c0_2) := (blk_cell BK_p0.o 2).trans rfl; obtain ⟨lo_a0, hi_a0, hz, hU, hU2, hU3⟩ := RSR_born hO hO2 hO3 HB.o; clear hO hO2 hO3; have Z_a0 := q_ hz; clear hz; obtain ⟨A_a0, c_a0, rfl⟩ := Kd.R_slice hU; have O_a0 := q_ hU; clear hU; obtain ⟨A_a1, c_a1, rfl⟩ := Kd.S_slice hU2; have O_a1 := q_ hU2; clear hU2; obtain ⟨A_a2, c_a2, rfl⟩ := Kd.R_slice hU3; have O_a2 := q_ hU3; clear hU3; have Y3 := q_ hb.size; replace HB := sb_ HB hb; clear hb)
    go_wp2_with (go_at_call 9; clear T4; refine (spec_GenCode.calls _ _ _ _ _ _ _ _ _ _ _ _ _ (C_of_R O_a0.o) (L_of_R O_a0.o) (C_of_S O_a1.o) (L_of_S O_a1.o) (C_of_R O_a2.o) (L_of_R O_a2.o) E2.o).mono ?_; rintro e w4 ⟨v_w0, rfl, hO, hb⟩; replace O_a0 := Rb_ O_a0 hb; replace O_a1 := Sb_ O_a1 hb; replace O_a2 := Rb_ O_a2 hb; replace BK_p0 := lb_ BK_p0 hb; replace hcz_p0_0 := (d3_ BK_p0).1; replace hcz_p0_1 : w4.cell? ⟨gb_p0, 1, none⟩ = some (.slice A0_1 l0_1.length c0_1) := (blk_cell BK_p0.o 1).trans rfl; replace hcz_p0_2 : w4.cell? ⟨gb_p0, 2, none⟩ = some (.slice A0_2 l0_2.length c0_2) := (blk_cell BK_p0.o 2).trans rfl; obtain ⟨lo_w0, hi_w0, hz, hO⟩ := S_born hO HB.o; have Z_w0 := q_ hz; clear hz; obtain ⟨A_w0, c_w0, rfl⟩ := Kd.S_slice hO; have O_w0 := q_ hO; clear hO; have Y4 := q_ hb.size; replace HB := sb_ HB hb; clear hb; have hal_p0_0 : ∀ o_, (w4.alloc o_).cell? ⟨gb_p0, 0, none⟩ = some (.slice A0_0 l0_0.length c0_0) := fun o_ => ((below_alloc (Below.refl _ _) o_ : Below w4.heap.size w4 _).cell (blk_lt BK_p0.o)).trans hcz_p0_0; have hal_p0_1 : ∀ o_, (w4.alloc o_).cell? ⟨gb_p0, 1, none⟩ = some (.slice A0_1 l0_1.length c0_1) := fun o_ => ((below_alloc (Below.refl _ _) o_ : Below w4.heap.size w4 _).cell (blk_lt BK_p0.o)).trans hcz_p0_1; have hal_p0_2 : ∀ o_, (w4.alloc o_).cell? ⟨gb_p0, 2, none⟩ = some (.slice A0_2 l0_2.length c0_2) := fun o_ => ((below_alloc (Below.refl _ _) o_ : Below w4.heap.size w4 _).cell (blk_lt BK_p0.o)).trans hcz_p0_2)
    go_wp2_with (go_at_call 10; clear T5; clear hal_p0_0 hal_p0_1 hal_p0_2; obtain ⟨w5, hW⟩ : ∃ w_ : World, w_ = w4.alloc (.cells #[.slice A_w0 C.length c_w0] 29) := ⟨_, rfl⟩; obtain ⟨gb_w0, hg⟩ : ∃ g_ : Nat, g_ = w4.heap.size := ⟨_, rfl⟩; rw [← hW, ← hg]; have hb : Below w4.heap.size w4 w5 := (by rw [hW]; exact below_alloc (Below.refl _ _) _); have hbox : w5.heap[gb_w0]? = some (.cells #[.slice A_w0 C.length c_w0] 29 (0, 0)) := (by rw [hW, hg]; exact blk_new _ _); replace O_a0 := Rb_ O_a0 hb; replace O_a1 := Sb_ O_a1 hb; replace O_a2 := Rb_ O_a2 hb; replace O_w0 := Sb_ O_w0 hb; replace BK_p0 := lb_ BK_p0 hb; replace hcz_p0_0 := (d3_ BK_p0).1; replace hcz_p0_1 : w5.cell? ⟨gb_p0, 1, none⟩ = some (.slice A0_1 l0_1.length c0_1) := (blk_cell BK_p0.o 1).trans rfl; replace hcz_p0_2 : w5.cell? ⟨gb_p0, 2, none⟩ = some (.slice A0_2 l0_2.length c0_2) := (blk_cell BK_p0.o 2).trans rfl; have BK_w0 := q_ hbox; have GB_w0 := q_ hg; have LB_w0 := q_ (blk_lt hbox); have Y5 := q_ hb.size; replace HB := sb_ HB hb; have hcz_w0_0 : w5.cell? ⟨gb_w0, 0, none⟩ = some (.slice A_w0 C.length c_w0) := (blk_cell BK_w0.o 0).trans rfl; clear hb hg hbox hW; refine (laws_toDfa.calls _ _ _ _ _ _ _ _ _ _ _ _ _ _ (Kd.C_below HR_l0_0.o HB.o) (HC_l0_0.o) (Kd.C_below HR_l0_1.o HB.o) (HC_l0_1.o) (Kd.C_below HR_l0_2.o HB.o) (HC_l0_2.o) E1.o).mono ?_; rintro e w6 ⟨v_x0, v_x1, v_x2, rfl, hO, hO2, hO3, hb⟩; replace O_a0 := Rb_ O_a0 hb; replace O_a1 := Sb_ O_a1 hb; replace O_a2 := Rb_ O_a2 hb; replace O_w0 := Sb_ O_w0 hb; replace BK_p0 := lb_ BK_p0 hb; replace hcz_p0_0 := (d3_ BK_p0).1; replace hcz_p0_1 : w6.cell? ⟨gb_p0, 1, none⟩ = some (.slice A0_1 l0_1.length c0_1) := (blk_cell BK_p0.o 1).trans rfl; replace hcz_p0_2 : w6.cell? ⟨gb_p0, 2, none⟩ = some (.slice A0_2 l0_2.length c0_2) := (blk_cell BK_p0.o 2).trans rfl; replace BK_w0 := lb_ BK_w0 hb; replace hcz_w0_0 := (d1_ BK_w0).1; obtain ⟨lo_x0, hi_x0, hz, hU, hU2, hU3⟩ := RSR_born hO hO2 hO3 HB.o; clear hO hO2 hO3; have Z_x0 := q_ hz; clear hz; obtain ⟨A_x0, c_x0, rfl⟩ := Kd.R_slice hU; have O_x0 := q_ hU; clear hU; obtain ⟨A_x1, c_x1, rfl⟩ := Kd.S_slice hU2; have O_x1 := q_ hU2; clear hU2; obtain ⟨A_x2, c_x2, rfl⟩ := Kd.R_slice hU3; have O_x2 := q_ hU3; clear hU3; have Y6 := q_ hb.size; replace HB := sb_ HB hb; clear hb; have hal_p0_0 : ∀ o_, (w6.alloc o_).cell? ⟨gb_p0, 0, none⟩ = some (.slice A0_0 l0_0.length c0_0) := fun o_ => ((below_alloc (Below.refl _ _) o_ : Below w6.heap.size w6 _).cell (blk_lt BK_p0.o)).trans hcz_p0_0; have hal_p0_1 : ∀ o_, (w6.alloc o_).cell? ⟨gb_p0, 1, none⟩ = some (.slice A0_1 l0_1.length c0_1) := fun o_ => ((below_alloc (Below.refl _ _) o_ : Below w6.heap.size w6 _).cell (blk_lt BK_p0.o)).trans hcz_p0_1; have hal_p0_2 : ∀ o_, (w6.alloc o_).cell? ⟨gb_p0, 2, none⟩ = some (.slice A0_2 l0_2.length c0_2) := fun o_ => ((below_alloc (Below.refl _ _) o_ : Below w6.heap.size w6 _).cell (blk_lt BK_p0.o)).trans hcz_p0_2; have hal_w0_0 : ∀ o_, (w6.alloc o_).cell? ⟨gb_w0, 0, none⟩ = some (.slice A_w0 C.length c_w0) := fun o_ => ((below_alloc (Below.refl _ _) o_ : Below w6.heap.size w6 _).cell (blk_lt BK_w0.o)).trans hcz_w0_0)
    go_wp2_with (go_at_call 11; clear T6; clear hal_p0_0 hal_p0_1 hal_p0_2 hal_w0_0; obtain ⟨w7, hW⟩ : ∃ w_ : World, w_ = w6.alloc (.cells #[.slice A_x0 l0_0.length c_x0, .slice A_x1 l0_1.length c_x1, .slice A_x2 l0_2.length c_x2] 32) := ⟨_, rfl⟩; obtain ⟨gb_x0_x1_x2, hg⟩ : ∃ g_ : Nat, g_ = w6.heap.size := ⟨_, rfl⟩; rw [← hW, ← hg]; have hb : Below w6.heap.size w6 w7 := (by rw [hW]; exact below_alloc (Below.refl _ _) _); have hbox : w7.heap[gb_x0_x1_x2]? = some (.cells #[.slice A_x0 l0_0.length c_x0, .slice A_x1 l0_1.length c_x1, .slice A_x2 l0_2.length c_x2] 32 (0, 0)) := (by rw [hW, hg]; exact blk_new _ _); replace O_a0 := Rb_ O_a0 hb; replace O_a1 := Sb_ O_a1 hb; replace O_a2 := Rb_ O_a2 hb; replace O_w0 := Sb_ O_w0 hb; replace O_x0 := Rb_ O_x0 hb; replace O_x1 := Sb_ O_x1 hb; replace O_x2 := Rb_ O_x2 hb; replace BK_p0 := lb_ BK_p0 hb; replace hcz_p0_0 := (d3_ BK_p0).1; replace hcz_p0_1 : w7.cell? ⟨gb_p0, 1, none⟩ = some (.slice A0_1 l0_1.length c0_1) := (blk_cell BK_p0.o 1).trans rfl; replace hcz_p0_2 : w7.cell? ⟨gb_p0, 2, none⟩ = some (.slice A0_2 l0_2.length c0_2) := (blk_cell BK_p0.o 2).trans rfl; replace BK_w0 := lb_ BK_w0 hb; replace hcz_w0_0 := (d1_ BK_w0).1; have BK_x0_x1_x2 := q_ hbox; have GB_x0_x1_x2 := q_ hg; have LB_x0_x1_x2 := q_ (blk_lt hbox); have Y7 := q_ hb.size; replace HB := sb_ HB hb; have hcz_x0_x1_x2_0 : w7.cell? ⟨gb_x0_x1_x2, 0, none⟩ = some (.slice A_x0 l0_0.length c_x0) := (blk_cell BK_x0_x1_x2.o 0).trans rfl; have hcz_x0_x1_x2_1 : w7.cell? ⟨gb_x0_x1_x2, 1, none⟩ = some (.slice A_x1 l0_1.length c_x1) := (blk_cell BK_x0_x1_x2.o 1).trans rfl; have hcz_x0_x1_x2_2 : w7.cell? ⟨gb_x0_x1_x2, 2, none⟩ = some (.slice A_x2 l0_2.length c_x2) := (blk_cell BK_x0_x1_x2.o 2).trans rfl; clear hb hg hbox hW; refine (impl_GenCode.calls _ _ _ _ _ _ _ _ _ _ _ _ _ (C_of_R O_x0.o) (L_of_R O_x0.o) (C_of_S O_x1.o) (L_of_S O_x1.o) (C_of_R O_x2.o) (L_of_R O_x2.o) E3.o).mono ?_; rintro e w8 ⟨v_g, rfl, hO, hb⟩; replace O_a0 := Rb_ O_a0 hb; replace O_a1 := Sb_ O_a1 hb; replace O_a2 := Rb_ O_a2 hb; replace O_w0 := Sb_ O_w0 hb; replace O_x0 := Rb_ O_x0 hb; replace O_x1 := Sb_ O_x1 hb; replace O_x2 := Rb_ O_x2 hb; replace BK_p0 := lb_ BK_p0 hb; replace hcz_p0_0 := (d3_ BK_p0).1; replace hcz_p0_1 : w8.cell? ⟨gb_p0, 1, none⟩ = some (.slice A0_1 l0_1.length c0_1) := (blk_cell BK_p0.o 1).trans rfl; replace hcz_p0_2 : w8.cell? ⟨gb_p0, 2, none⟩ = some (.slice A0_2 l0_2.length c0_2) := (blk_cell BK_p0.o 2).trans rfl; replace BK_w0 := lb_ BK_w0 hb; replace hcz_w0_0 := (d1_ BK_w0).1; replace BK_x0_x1_x2 := lb_ BK_x0_x1_x2 hb; replace hcz_x0_x1_x2_0 := (d3_ BK_x0_x1_x2).1; replace hcz_x0_x1_x2_1 : w8.cell? ⟨gb_x0_x1_x2, 1, none⟩ = some (.slice A_x1 l0_1.length c_x1) := (blk_cell BK_x0_x1_x2.o 1).trans rfl; replace hcz_x0_x1_x2_2 : w8.cell? ⟨gb_x0_x1_x2, 2, none⟩ = some (.slice A_x2 l0_2.length c_x2) := (blk_cell BK_x0_x1_x2.o 2).trans rfl; obtain ⟨lo_g, hi_g, hz, hO⟩ := S_born hO HB.o; have Z_g := q_ hz; clear hz; obtain ⟨A_g, c_g, rfl⟩ := Kd.S_slice hO; have O_g := q_ hO; clear hO; have Y8 := q_ hb.size; replace HB := sb_ HB hb; clear hb; have hal_p0_0 : ∀ o_, (w8.alloc o_).cell? ⟨gb_p0, 0, none⟩ = some (.slice A0_0 l0_0.length c0_0) := fun o_ => ((below_alloc (Below.refl _ _) o_ : Below w8.heap.size w8 _).cell (blk_lt BK_p0.o)).trans hcz_p0_0; have hal_p0_1 : ∀ o_, (w8.alloc o_).cell? ⟨gb_p0, 1, none⟩ = some (.slice A0_1 l0_1.length c0_1) := fun o_ => ((below_alloc (Below.refl _ _) o_ : Below w8.heap.size w8 _).cell (blk_lt BK_p0.o)).trans hcz_p0_1; have hal_p0_2 : ∀ o_, (w8.alloc o_).cell? ⟨gb_p0, 2, none⟩ = some (.slice A0_2 l0_2.length c0_2) := fun o_ => ((below_alloc (Below.refl _ _) o_ : Below w8.heap.size w8 _).cell (blk_lt BK_p0.o)).trans hcz_p0_2; have hal_w0_0 : ∀ o_, (w8.alloc o_).cell? ⟨gb_w0, 0, none⟩ = some (.slice A_w0 C.length c_w0) := fun o_ => ((below_alloc (Below.refl _ _) o_ : Below w8.heap.size w8 _).cell (blk_lt BK_w0.o)).trans hcz_w0_0; have hal_x0_x1_x2_0 : ∀ o_, (w8.alloc o_).cell? ⟨gb_x0_x1_x2, 0, none⟩ = some (.slice A_x0 l0_0.length c_x0) := fun o_ => ((below_alloc (Below.refl _ _) o_ : Below w8.heap.size w8 _).cell (blk_lt BK_x0_x1_x2.o)).trans hcz_x0_x1_x2_0; have hal_x0_x1_x2_1 : ∀ o_, (w8.alloc o_).cell? ⟨gb_x0_x1_x2, 1, none⟩ = some (.slice A_x1 l0_1.length c_x1) := fun o_ => ((below_alloc (Below.refl _ _) o_ : Below w8.heap.size w8 _).cell (blk_lt BK_x0_x1_x2.o)).trans hcz_x0_x1_x2_1; have hal_x0_x1_x2_2 : ∀ o_, (w8.alloc o_).cell? ⟨gb_x0_x1_x2, 2, none⟩ = some (.slice A_x2 l0_2.length c_x2) := fun o_ => ((below_alloc (Below.refl _ _) o_ : Below w8.heap.size w8 _).cell (blk_lt BK_x0_x1_x2.o)).trans hcz_x0_x1_x2_2)
    go_wp2_with (go_at_call 12; clear T7; clear hal_p0_0 hal_p0_1 hal_p0_2 hal_w0_0 hal_x0_x1_x2_0 hal_x0_x1_x2_1 hal_x0_x1_x2_2; obtain ⟨w9, hW⟩ : ∃ w_ : World, w_ = w8.alloc (.cells #[.slice A_g C.length c_g] 29) := ⟨_, rfl⟩; obtain ⟨gb_g, hg⟩ : ∃ g_ : Nat, g_ = w8.heap.size := ⟨_, rfl⟩; rw [← hW, ← hg]; have hb : Below w8.heap.size w8 w9 := (by rw [hW]; exact below_alloc (Below.refl _ _) _); have hbox : w9.heap[gb_g]? = some (.cells #[.slice A_g C.length c_g] 29 (0, 0)) := (by rw [hW, hg]; exact blk_new _ _); replace O_a0 := Rb_ O_a0 hb; replace O_a1 := Sb_ O_a1 hb; replace O_a2 := Rb_ O_a2 hb; replace O_w0 := Sb_ O_w0 hb; replace O_x0 := Rb_ O_x0 hb; replace O_x1 := Sb_ O_x1 hb; replace O_x2 := Rb_ O_x2 hb; replace O_g := Sb_ O_g hb; replace BK_p0 := lb_ BK_p0 hb; replace hcz_p0_0 := (d3_ BK_p0).1; replace hcz_p0_1 : w9.cell? ⟨gb_p0, 1, none⟩ = some (.slice A0_1 l0_1.length c0_1) := (blk_cell BK_p0.o 1).trans rfl; replace hcz_p0_2 : w9.cell? ⟨gb_p0, 2, none⟩ = some (.slice A0_2 l0_2.length c0_2) := (blk_cell BK_p0.o 2).trans rfl; replace BK_w0 := lb_ BK_w0 hb; replace hcz_w0_0 := (d1_ BK_w0).1; replace BK_x0_x1_x2 := lb_ BK_x0_x1_x2 hb; replace hcz_x0_x1_x2_0 := (d3_ BK_x0_x1_x2).1; replace hcz_x0_x1_x2_1 : w9.cell? ⟨gb_x0_x1_x2, 1, none⟩ = some (.slice A_x1 l0_1.length c_x1) := (blk_cell BK_x0_x1_x2.o 1).trans rfl; replace hcz_x0_x1_x2_2 : w9.cell? ⟨gb_x0_x1_x2, 2, none⟩ = some (.slice A_x2 l0_2.length c_x2) := (blk_cell BK_x0_x1_x2.o 2).trans rfl; have BK_g := q_ hbox; have GB_g := q_ hg; have LB_g := q_ (blk_lt hbox); have Y9 := q_ hb.size; replace HB := sb_ HB hb; have hcz_g_0 : w9.cell? ⟨gb_g, 0, none⟩ = some (.slice A_g C.length c_g) := (blk_cell BK_g.o 0).trans rfl; clear hb hg hbox hW; refine (laws_eqCode.calls _ _ _ _ _ _ _ _ _ (C_of_S O_g.o) (L_of_S O_g.o) (C_of_S O_w0.o) (L_of_S O_w0.o) E4.o).mono ?_; rintro e w10 ⟨rfl, hb⟩; replace O_a0 := Rb_ O_a0 hb; replace O_a1 := Sb_ O_a1 hb; replace O_a2 := Rb_ O_a2 hb; replace O_w0 := Sb_ O_w0 hb; replace O_x0 := Rb_ O_x0 hb; replace O_x1 := Sb_ O_x1 hb; replace O_x2 := Rb_ O_x2 hb; replace O_g := Sb_ O_g hb; replace BK_p0 := lb_ BK_p0 hb; replace hcz_p0_0 := (d3_ BK_p0).1; replace hcz_p0_1 : w10.cell? ⟨gb_p0, 1, none⟩ = some (.slice A0_1 l0_1.length c0_1) := (blk_cell BK_p0.o 1).trans rfl; replace hcz_p0_2 : w10.cell? ⟨gb_p0, 2, none⟩ = some (.slice A0_2 l0_2.length c0_2) := (blk_cell BK_p0.o 2).trans rfl; replace BK_w0 := lb_ BK_w0 hb; replace hcz_w0_0 := (d1_ BK_w0).1; replace BK_x0_x1_x2 := lb_ BK_x0_x1_x2 hb; replace hcz_x0_x1_x2_0 := (d3_ BK_x0_x1_x2).1; replace hcz_x0_x1_x2_1 : w10.cell? ⟨gb_x0_x1_x2, 1, none⟩ = some (.slice A_x1 l0_1.length c_x1) := (blk_cell BK_x0_x1_x2.o 1).trans rfl; replace hcz_x0_x1_x2_2 : w10.cell? ⟨gb_x0_x1_x2, 2, none⟩ = some (.slice A_x2 l0_2.length c_x2) := (blk_cell BK_x0_x1_x2.o 2).trans rfl; replace BK_g := lb_ BK_g hb; replace hcz_g_0 := (d1_ BK_g).1; have Y10 := q_ hb.size; replace HB := sb_ HB hb; clear hb)
    have hb : Below w10.heap.size w10 w10.drew := below_drew (Below.refl _ _)
    replace O_a0 := Rb_ O_a0 hb
    replace O_a1 := Sb_ O_a1 hb
    replace O_a2 := Rb_ O_a2 hb
    replace O_w0 := Sb_ O_w0 hb
    replace O_x0 := Rb_ O_x0 hb
    replace O_x1 := Sb_ O_x1 hb
    replace O_x2 := Rb_ O_x2 hb
    replace O_g := Sb_ O_g hb
    replace BK_p0 := q_ (blk_drew BK_p0.o)
    replace hcz_p0_0 : w10.drew.cell? ⟨gb_p0, 0, none⟩ = some (.slice A0_0 l0_0.length c0_0) := (blk_cell BK_p0.o 0).trans rfl
    replace hcz_p0_1 : w10.drew.cell? ⟨gb_p0, 1, none⟩ = some (.slice A0_1 l0_1.length c0_1) := (blk_cell BK_p0.o 1).trans rfl
    replace hcz_p0_2 : w10.drew.cell? ⟨gb_p0, 2, none⟩ = some (.slice A0_2 l0_2.length c0_2) := (blk_cell BK_p0.o 2).trans rfl
    replace BK_w0 := q_ (blk_drew BK_w0.o)
    replace hcz_w0_0 : w10.drew.cell? ⟨gb_w0, 0, none⟩ = some (.slice A_w0 C.length c_w0) := (blk_cell BK_w0.o 0).trans rfl
    replace BK_x0_x1_x2 := q_ (blk_drew BK_x0_x1_x2.o)
    replace hcz_x0_x1_x2_0 : w10.drew.cell? ⟨gb_x0_x1_x2, 0, none⟩ = some (.slice A_x0 l0_0.length c_x0) := (blk_cell BK_x0_x1_x2.o 0).trans rfl
    replace hcz_x0_x1_x2_1 : w10.drew.cell? ⟨gb_x0_x1_x2, 1, none⟩ = some (.slice A_x1 l0_1.length c_x1) := (blk_cell BK_x0_x1_x2.o 1).trans rfl
    replace hcz_x0_x1_x2_2 : w10.drew.cell? ⟨gb_x0_x1_x2, 2, none⟩ = some (.slice A_x2 l0_2.length c_x2) := (blk_cell BK_x0_x1_x2.o 2).trans rfl
    replace BK_g := q_ (blk_drew BK_g.o)
    replace hcz_g_0 : w10.drew.cell? ⟨gb_g, 0, none⟩ = some (.slice A_g C.length c_g) := (blk_cell BK_g.o 0).trans rfl
    have Y11 := q_ hb.size
    replace HB := sb_ HB hb
    clear hb
    refine start_ (n := 5) (S := fun w' => w'.cell? ⟨gb_x0_x1_x2, 0, none⟩ = some (.slice A_x0 l0_0.length c_x0) ∧ w'.cell? ⟨gb_x0_x1_x2, 1, none⟩ = some (.slice A_x1 l0_1.length c_x1) ∧ w'.cell? ⟨gb_x0_x1_x2, 2, none⟩ = some (.slice A_x2 l0_2.length c_x2) ∧ w'.cell? ⟨gb_p0, 0, none⟩ = some (.slice A0_0 l0_0.length c0_0) ∧ w'.cell? ⟨gb_p0, 1, none⟩ = some (.slice A0_1 l0_1.length c0_1) ∧ w'.cell? ⟨gb_p0, 2, none⟩ = some (.slice A0_2 l0_2.length c0_2)) (ds := []) #[false, false, false, false, false] (by kernel_rfl) rfl rfl ⟨hcz_x0_x1_x2_0, hcz_x0_x1_x2_1, hcz_x0_x1_x2_2, hcz_p0_0, hcz_p0_1, hcz_p0_2⟩ (fun hHeld => ?_)
    generalize w10.drew = w11 at O_a0 O_a1 O_a2 O_w0 O_x0 O_x1 O_x2 O_g BK_p0 BK_w0 BK_x0_x1_x2 BK_g hcz_p0_0 hcz_p0_1 hcz_p0_2 hcz_w0_0 hcz_x0_x1_x2_0 hcz_x0_x1_x2_1 hcz_x0_x1_x2_2 hcz_g_0 Y11 HB hHeld ⊢
    refine take_ (i := 0) (N := some 41) (v := ?_) (a' := ?_) #[true, false, false, false, false] rfl rfl (by kernel_rfl) (fun _ _ _ h => h) (Or.inl ⟨by rfl, ?_⟩) hHeld ?_ ?_
    rotate_left
    · rintro w' ⟨s0, s1, s2, s3, s4, s5⟩
      go_simp
      with_reducible rfl
    rotate_left
    · simp only [Act.put, List.setIfInBounds_toArray, List.set_cons_zero, List.set_cons_succ, i64_w, i32_w]
      rfl
    refine take_ (i := 1) (N := some 42) (v := ?_) (a' := ?_) #[true, true, false, false, false] rfl rfl (by kernel_rfl) (fun _ _ _ h => h) (Or.inl ⟨by rfl, ?_⟩) hHeld ?_ ?_
    rotate_left
    · rintro w' ⟨s0, s1, s2, s3, s4, s5⟩
      go_simp
      with_reducible rfl
    rotate_left
    · simp only [Act.put, List.setIfInBounds_toArray, List.set_cons_zero, List.set_cons_succ, i64_w, i32_w]
      rfl
    refine one_ (i := 2) (N := some 43) #[true, true, true, false, false] rfl rfl (by kernel_rfl) (by decide) (fun K hK => ?_)
    refine goes_ Try.func10 (by kernel_rfl) rfl #[.agg #[.slice A0_0 l0_0.length c0_0, .slice A0_1 l0_1.length c0_1, .slice A0_2 l0_2.length c0_2]] (by rfl) rfl rfl (by (try simp only [List.map_toArray, List.map_cons, List.map_nil]); first | done | rfl | (simp only [List.length_drop, List.length_take]; rfl)) ?_
    with_reducible refine (laws_toDfa.calls _ _ _ _ _ _ _ _ _ _ _ _ _ _ (Kd.C_below HR_l0_0.o HB.o) (HC_l0_0.o) (Kd.C_below HR_l0_1.o HB.o) (HC_l0_1.o) (Kd.C_below HR_l0_2.o HB.o) (HC_l0_2.o) E1.o).mono ?_
    rintro e w12 ⟨v_b0, v_b1, v_b2, rfl, hO, hO2, hO3, hb⟩
    refine ⟨_, rfl, ?_⟩
    replace O_a0 := Rb_ O_a0 hb
    replace O_a1 := Sb_ O_a1 hb
    replace O_a2 := Rb_ O_a2 hb
    replace O_w0 := Sb_ O_w0 hb
    replace O_x0 := Rb_ O_x0 hb
    replace O_x1 := Sb_ O_x1 hb
    replace O_x2 := Rb_ O_x2 hb
    replace O_g := Sb_ O_g hb
    replace BK_p0 := lb_ BK_p0 hb
    replace hcz_p0_0 := (d3_ BK_p0).1
    replace hcz_p0_1 : w12.cell? ⟨gb_p0, 1, none⟩ = some (.slice A0_1 l0_1.length c0_1) := (blk_cell BK_p0.o 1).trans rfl
    replace hcz_p0_2 : w12.cell? ⟨gb_p0, 2, none⟩ = some (.slice A0_2 l0_2.length c0_2) := (blk_cell BK_p0.o 2).trans rfl
    replace BK_w0 := lb_ BK_w0 hb
    replace hcz_w0_0 := (d1_ BK_w0).1
    replace BK_x0_x1_x2 := lb_ BK_x0_x1_x2 hb
    replace hcz_x0_x1_x2_0 := (d3_ BK_x0_x1_x2).1
    replace hcz_x0_x1_x2_1 : w12.cell? ⟨gb_x0_x1_x2, 1, none⟩ = some (.slice A_x1 l0_1.length c_x1) := (blk_cell BK_x0_x1_x2.o 1).trans rfl
    replace hcz_x0_x1_x2_2 : w12.cell? ⟨gb_x0_x1_x2, 2, none⟩ = some (.slice A_x2 l0_2.length c_x2) := (blk_cell BK_x0_x1_x2.o 2).trans rfl
    replace BK_g := lb_ BK_g hb
    replace hcz_g_0 := (d1_ BK_g).1
    obtain ⟨lo_b0, hi_b0, hz, hU, hU2, hU3⟩ := RSR_born hO hO2 hO3 HB.o
    clear hO hO2 hO3
    have Z_b0 := q_ hz
    clear hz
    obtain ⟨A_b0, c_b0, rfl⟩ := Kd.R_slice hU
    have O_b0 := q_ hU
    clear hU
    obtain ⟨A_b1, c_b1, rfl⟩ := Kd.S_slice hU2
    have O_b1 := q_ hU2
    clear hU2
    obtain ⟨A_b2, c_b2, rfl⟩ := Kd.R_slice hU3
    have O_b2 := q_ hU3
    clear hU3
    have Y12 := q_ hb.size
    replace HB := sb_ HB hb
    clear hb
    refine hK.out _ _ ⟨hcz_x0_x1_x2_0, hcz_x0_x1_x2_1, hcz_x0_x1_x2_2, hcz_p0_0, hcz_p0_1, hcz_p0_2⟩ (fun hHeld => ?_)
    clear hK K
    refine norm_ (a' := ?_) ?_ ?_
    rotate_left
    · show Act.put _ (some 43) _ = _
      simp only [Act.put, List.setIfInBounds_toArray, List.set_cons_zero, List.set_cons_succ, i64_w, i32_w]
      rfl
    refine one_ (i := 3) (N := some 44) #[true, true, true, true, false] rfl rfl (by kernel_rfl) (by decide) (fun K hK => ?_)
    refine goes_ Try.func13 (by kernel_rfl) rfl #[.agg #[.slice A_x0 l0_0.length c_x0, .slice A_x1 l0_1.length c_x1, .slice A_x2 l0_2.length c_x2], .agg #[.slice A_b0 l0_0.length c_b0, .slice A_b1 l0_1.length c_b1, .slice A_b2 l0_2.length c_b2]] (by rfl) rfl rfl (by (try simp only [List.map_toArray, List.map_cons, List.map_nil]); first | done | rfl | (simp only [List.length_drop, List.length_take]; rfl)) ?_
    with_reducible refine (laws_eqDfa.calls _ _ _ _ _ _ _ _ _ _ _ _ _ _ _ _ _ _ _ _ _ (C_of_R O_x0.o) (L_of_R O_x0.o) (C_of_S O_x1.o) (L_of_S O_x1.o) (C_of_R O_x2.o) (L_of_R O_x2.o) (C_of_R O_b0.o) (L_of_R O_b0.o) (C_of_S O_b1.o) (L_of_S O_b1.o) (C_of_R O_b2.o) (L_of_R O_b2.o) E5.o).mono ?_
    rintro e w13 ⟨rfl, hb⟩
    refine ⟨_, rfl, ?_⟩
    replace O_a0 := Rb_ O_a0 hb
    replace O_a1 := Sb_ O_a1 hb
    replace O_a2 := Rb_ O_a2 hb
    replace O_w0 := Sb_ O_w0 hb
    replace O_x0 := Rb_ O_x0 hb
    replace O_x1 := Sb_ O_x1 hb
    replace O_x2 := Rb_ O_x2 hb
    replace O_g := Sb_ O_g hb
    replace O_b0 := Rb_ O_b0 hb
    replace O_b1 := Sb_ O_b1 hb
    replace O_b2 := Rb_ O_b2 hb
    replace BK_p0 := lb_ BK_p0 hb
    replace hcz_p0_0 := (d3_ BK_p0).1
    replace hcz_p0_1 : w13.cell? ⟨gb_p0, 1, none⟩ = some (.slice A0_1 l0_1.length c0_1) := (blk_cell BK_p0.o 1).trans rfl
    replace hcz_p0_2 : w13.cell? ⟨gb_p0, 2, none⟩ = some (.slice A0_2 l0_2.length c0_2) := (blk_cell BK_p0.o 2).trans rfl
    replace BK_w0 := lb_ BK_w0 hb
    replace hcz_w0_0 := (d1_ BK_w0).1
    replace BK_x0_x1_x2 := lb_ BK_x0_x1_x2 hb
    replace hcz_x0_x1_x2_0 := (d3_ BK_x0_x1_x2).1
    replace hcz_x0_x1_x2_1 : w13.cell? ⟨gb_x0_x1_x2, 1, none⟩ = some (.slice A_x1 l0_1.length c_x1) := (blk_cell BK_x0_x1_x2.o 1).trans rfl
    replace hcz_x0_x1_x2_2 : w13.cell? ⟨gb_x0_x1_x2, 2, none⟩ = some (.slice A_x2 l0_2.length c_x2) := (blk_cell BK_x0_x1_x2.o 2).trans rfl
    replace BK_g := lb_ BK_g hb
    replace hcz_g_0 := (d1_ BK_g).1
    have Y13 := q_ hb.size
    replace HB := sb_ HB hb
    clear hb
    refine hK.out _ _ ⟨hcz_x0_x1_x2_0, hcz_x0_x1_x2_1, hcz_x0_x1_x2_2, hcz_p0_0, hcz_p0_1, hcz_p0_2⟩ (fun hHeld => ?_)
    clear hK K
    refine norm_ (a' := ?_) ?_ ?_
    rotate_left
    · show Act.put _ (some 44) _ = _
      simp only [Act.put, List.setIfInBounds_toArray, List.set_cons_zero, List.set_cons_succ, i64_w, i32_w]
      rfl
    refine pure_ (i := 4) (N := some 45) (v := ?_) (a' := ?_) #[true, true, true, true, true] rfl rfl (by kernel_rfl) (fun _ _ _ h => h) (Or.inl ⟨by rfl, ?_⟩) ?_ ?_
    rotate_left
    · intro w'
      go_simp
      with_reducible rfl
    rotate_left
    · simp only [Act.put, List.setIfInBounds_toArray, List.set_cons_zero, List.set_cons_succ, i64_w, i32_w]
      rfl
    refine done_ (by kernel_rfl) ?_
    go_wp2_with (go_at_call 14; clear T8; refine (markDfa_walk _ _ _ _ _ _ _ _ _ _ l0_0 l0_1 l0_2 1 l0_0.length M l0_2.length S0.o F2.o S2.o (by omega) F0.o w _ HB.o O_x0.o (Kd.S_R O_x1.o) O_x2.o).mono ?_; rintro e w14 ⟨rfl, hB2, hK⟩; have z0 := GB_p0.o; have z1 := LB_p0.o; have z2 := Y1.o; have z3 := Y2.o; have z4 := Z_a0.o; have z5 := Y3.o; have z6 := Z_w0.o; have z7 := Y4.o; have z8 := GB_w0.o; have z9 := LB_w0.o; have z10 := Y5.o; have z11 := Z_x0.o; have z12 := Y6.o; have z13 := GB_x0_x1_x2.o; have z14 := LB_x0_x1_x2.o; have z15 := Y7.o; have z16 := Z_g.o; have z17 := Y8.o; have z18 := GB_g.o; have z19 := LB_g.o; have z20 := Y9.o; have z21 := Y10.o; have z22 := Y11.o; have z23 := Z_b0.o; have z24 := Y12.o; have z25 := Y13.o; replace O_a0 := q_ (R_beside O_a0.o (by omega) hK (by omega)); replace O_a1 := q_ (S_beside O_a1.o (by omega) hK (by omega)); replace O_a2 := q_ (R_beside O_a2.o (by omega) hK (by omega)); replace O_w0 := q_ (S_beside O_w0.o (by omega) hK (by omega)); replace O_g := q_ (S_beside O_g.o (by omega) hK (by omega)); replace O_b0 := q_ (R_beside O_b0.o (by omega) hK (by omega)); replace O_b1 := q_ (S_beside O_b1.o (by omega) hK (by omega)); replace O_b2 := q_ (R_beside O_b2.o (by omega) hK (by omega)); replace BK_p0 := q_ ((hK.2 gb_p0 (by omega) (fun h2 => by have y0 := h2.1; have y1 := h2.2; omega)).trans BK_p0.o); replace hcz_p0_0 := (d3_ BK_p0).1; replace hcz_p0_1 : w14.cell? ⟨gb_p0, 1, none⟩ = some (.slice A0_1 l0_1.length c0_1) := (blk_cell BK_p0.o 1).trans rfl; replace hcz_p0_2 : w14.cell? ⟨gb_p0, 2, none⟩ = some (.slice A0_2 l0_2.length c0_2) := (blk_cell BK_p0.o 2).trans rfl; replace BK_w0 := q_ ((hK.2 gb_w0 (by omega) (fun h2 => by have y0 := h2.1; have y1 := h2.2; omega)).trans BK_w0.o); replace hcz_w0_0 := (d1_ BK_w0).1; replace BK_x0_x1_x2 := q_ ((hK.2 gb_x0_x1_x2 (by omega) (fun h2 => by have y0 := h2.1; have y1 := h2.2; omega)).trans BK_x0_x1_x2.o); replace hcz_x0_x1_x2_0 := (d3_ BK_x0_x1_x2).1; replace hcz_x0_x1_x2_1 : w14.cell? ⟨gb_x0_x1_x2, 1, none⟩ = some (.slice A_x1 l0_1.length c_x1) := (blk_cell BK_x0_x1_x2.o 1).trans rfl; replace hcz_x0_x1_x2_2 : w14.cell? ⟨gb_x0_x1_x2, 2, none⟩ = some (.slice A_x2 l0_2.length c_x2) := (blk_cell BK_x0_x1_x2.o 2).trans rfl; replace BK_g := q_ ((hK.2 gb_g (by omega) (fun h2 => by have y0 := h2.1; have y1 := h2.2; omega)).trans BK_g.o); replace hcz_g_0 := (d1_ BK_g).1; clear z0 z1 z2 z3 z4 z5 z6 z7 z8 z9 z10 z11 z12 z13 z14 z15 z16 z17 z18 z19 z20 z21 z22 z23 z24 z25; clear O_x0 O_x1 O_x2; have Y14 := q_ hK.1; replace HB := q_ hB2; clear hB2 hK)
    go_wp2_with (go_at_call 12; clear T9; refine (laws_eqCode.calls _ _ _ _ _ _ _ _ _ (C_of_S O_g.o) (L_of_S O_g.o) (C_of_S O_w0.o) (L_of_S O_w0.o) E4.o).mono ?_; rintro e w15 ⟨rfl, hb⟩; replace O_a0 := Rb_ O_a0 hb; replace O_a1 := Sb_ O_a1 hb; replace O_a2 := Rb_ O_a2 hb; replace O_w0 := Sb_ O_w0 hb; replace O_g := Sb_ O_g hb; replace O_b0 := Rb_ O_b0 hb; replace O_b1 := Sb_ O_b1 hb; replace O_b2 := Rb_ O_b2 hb; replace BK_p0 := lb_ BK_p0 hb; replace hcz_p0_0 := (d3_ BK_p0).1; replace hcz_p0_1 : w15.cell? ⟨gb_p0, 1, none⟩ = some (.slice A0_1 l0_1.length c0_1) := (blk_cell BK_p0.o 1).trans rfl; replace hcz_p0_2 : w15.cell? ⟨gb_p0, 2, none⟩ = some (.slice A0_2 l0_2.length c0_2) := (blk_cell BK_p0.o 2).trans rfl; replace BK_w0 := lb_ BK_w0 hb; replace hcz_w0_0 := (d1_ BK_w0).1; replace BK_x0_x1_x2 := lb_ BK_x0_x1_x2 hb; replace hcz_x0_x1_x2_0 := (d3_ BK_x0_x1_x2).1; replace hcz_x0_x1_x2_1 : w15.cell? ⟨gb_x0_x1_x2, 1, none⟩ = some (.slice A_x1 l0_1.length c_x1) := (blk_cell BK_x0_x1_x2.o 1).trans rfl; replace hcz_x0_x1_x2_2 : w15.cell? ⟨gb_x0_x1_x2, 2, none⟩ = some (.slice A_x2 l0_2.length c_x2) := (blk_cell BK_x0_x1_x2.o 2).trans rfl; replace BK_g := lb_ BK_g hb; replace hcz_g_0 := (d1_ BK_g).1; have Y15 := q_ hb.size; replace HB := sb_ HB hb; clear hb)
    go_wp2_with (go_at_call 15; clear T10; refine (markCode_walk _ _ _ _ C 1 (by omega) F3.o F4.o w _ HB.o O_g.o).mono ?_; rintro e w16 ⟨rfl, hO, hB2, hK⟩; have z0 := GB_p0.o; have z1 := LB_p0.o; have z2 := Y1.o; have z3 := Y2.o; have z4 := Z_a0.o; have z5 := Y3.o; have z6 := Z_w0.o; have z7 := Y4.o; have z8 := GB_w0.o; have z9 := LB_w0.o; have z10 := Y5.o; have z11 := Z_x0.o; have z12 := Y6.o; have z13 := GB_x0_x1_x2.o; have z14 := LB_x0_x1_x2.o; have z15 := Y7.o; have z16 := Z_g.o; have z17 := Y8.o; have z18 := GB_g.o; have z19 := LB_g.o; have z20 := Y9.o; have z21 := Y10.o; have z22 := Y11.o; have z23 := Z_b0.o; have z24 := Y12.o; have z25 := Y13.o; have z26 := Y14.o; have z27 := Y15.o; replace O_a0 := q_ (R_beside O_a0.o (by omega) hK (by omega)); replace O_a1 := q_ (S_beside O_a1.o (by omega) hK (by omega)); replace O_a2 := q_ (R_beside O_a2.o (by omega) hK (by omega)); replace O_w0 := q_ (S_beside O_w0.o (by omega) hK (by omega)); replace O_b0 := q_ (R_beside O_b0.o (by omega) hK (by omega)); replace O_b1 := q_ (S_beside O_b1.o (by omega) hK (by omega)); replace O_b2 := q_ (R_beside O_b2.o (by omega) hK (by omega)); replace BK_p0 := q_ ((hK.2 gb_p0 (by omega) (fun h2 => by have y0 := h2.1; have y1 := h2.2; omega)).trans BK_p0.o); replace hcz_p0_0 := (d3_ BK_p0).1; replace hcz_p0_1 : w16.cell? ⟨gb_p0, 1, none⟩ = some (.slice A0_1 l0_1.length c0_1) := (blk_cell BK_p0.o 1).trans rfl; replace hcz_p0_2 : w16.cell? ⟨gb_p0, 2, none⟩ = some (.slice A0_2 l0_2.length c0_2) := (blk_cell BK_p0.o 2).trans rfl; replace BK_w0 := q_ ((hK.2 gb_w0 (by omega) (fun h2 => by have y0 := h2.1; have y1 := h2.2; omega)).trans BK_w0.o); replace hcz_w0_0 := (d1_ BK_w0).1; replace BK_x0_x1_x2 := q_ ((hK.2 gb_x0_x1_x2 (by omega) (fun h2 => by have y0 := h2.1; have y1 := h2.2; omega)).trans BK_x0_x1_x2.o); replace hcz_x0_x1_x2_0 := (d3_ BK_x0_x1_x2).1; replace hcz_x0_x1_x2_1 : w16.cell? ⟨gb_x0_x1_x2, 1, none⟩ = some (.slice A_x1 l0_1.length c_x1) := (blk_cell BK_x0_x1_x2.o 1).trans rfl; replace hcz_x0_x1_x2_2 : w16.cell? ⟨gb_x0_x1_x2, 2, none⟩ = some (.slice A_x2 l0_2.length c_x2) := (blk_cell BK_x0_x1_x2.o 2).trans rfl; replace BK_g := q_ ((hK.2 gb_g (by omega) (fun h2 => by have y0 := h2.1; have y1 := h2.2; omega)).trans BK_g.o); replace hcz_g_0 := (d1_ BK_g).1; clear z0 z1 z2 z3 z4 z5 z6 z7 z8 z9 z10 z11 z12 z13 z14 z15 z16 z17 z18 z19 z20 z21 z22 z23 z24 z25 z26 z27; replace O_g := q_ hO; have Y16 := q_ hK.1; replace HB := q_ hB2; clear hO hB2 hK)
    go_wp2_with (go_at_call 16; clear T11; refine (len_Sg O_g.o (laws_heldCode.calls _ _ _ _ _ _ _ (C_of_S O_g.o) (L_of_S O_g.o) E7.o)).mono ?_; rintro e w17 ⟨rfl, hb⟩; replace O_a0 := Rb_ O_a0 hb; replace O_a1 := Sb_ O_a1 hb; replace O_a2 := Rb_ O_a2 hb; replace O_w0 := Sb_ O_w0 hb; replace O_g := Sb_ O_g hb; replace O_b0 := Rb_ O_b0 hb; replace O_b1 := Sb_ O_b1 hb; replace O_b2 := Rb_ O_b2 hb; replace BK_p0 := lb_ BK_p0 hb; replace hcz_p0_0 := (d3_ BK_p0).1; replace hcz_p0_1 : w17.cell? ⟨gb_p0, 1, none⟩ = some (.slice A0_1 l0_1.length c0_1) := (blk_cell BK_p0.o 1).trans rfl; replace hcz_p0_2 : w17.cell? ⟨gb_p0, 2, none⟩ = some (.slice A0_2 l0_2.length c0_2) := (blk_cell BK_p0.o 2).trans rfl; replace BK_w0 := lb_ BK_w0 hb; replace hcz_w0_0 := (d1_ BK_w0).1; replace BK_x0_x1_x2 := lb_ BK_x0_x1_x2 hb; replace hcz_x0_x1_x2_0 := (d3_ BK_x0_x1_x2).1; replace hcz_x0_x1_x2_1 : w17.cell? ⟨gb_x0_x1_x2, 1, none⟩ = some (.slice A_x1 l0_1.length c_x1) := (blk_cell BK_x0_x1_x2.o 1).trans rfl; replace hcz_x0_x1_x2_2 : w17.cell? ⟨gb_x0_x1_x2, 2, none⟩ = some (.slice A_x2 l0_2.length c_x2) := (blk_cell BK_x0_x1_x2.o 2).trans rfl; replace BK_g := lb_ BK_g hb; replace hcz_g_0 := (d1_ BK_g).1; have Y17 := q_ hb.size; replace HB := sb_ HB hb; clear hb)
    go_wp2_with (go_at_call 10; clear T12; refine (laws_toDfa.calls _ _ _ _ _ _ _ _ _ _ _ _ _ _ (Kd.C_below HR_l0_0.o HB.o) (HC_l0_0.o) (Kd.C_below HR_l0_1.o HB.o) (HC_l0_1.o) (Kd.C_below HR_l0_2.o HB.o) (HC_l0_2.o) E1.o).mono ?_; rintro e w18 ⟨v_c0, v_c1, v_c2, rfl, hO, hO2, hO3, hb⟩; replace O_a0 := Rb_ O_a0 hb; replace O_a1 := Sb_ O_a1 hb; replace O_a2 := Rb_ O_a2 hb; replace O_w0 := Sb_ O_w0 hb; replace O_g := Sb_ O_g hb; replace O_b0 := Rb_ O_b0 hb; replace O_b1 := Sb_ O_b1 hb; replace O_b2 := Rb_ O_b2 hb; replace BK_p0 := lb_ BK_p0 hb; replace hcz_p0_0 := (d3_ BK_p0).1; replace hcz_p0_1 : w18.cell? ⟨gb_p0, 1, none⟩ = some (.slice A0_1 l0_1.length c0_1) := (blk_cell BK_p0.o 1).trans rfl; replace hcz_p0_2 : w18.cell? ⟨gb_p0, 2, none⟩ = some (.slice A0_2 l0_2.length c0_2) := (blk_cell BK_p0.o 2).trans rfl; replace BK_w0 := lb_ BK_w0 hb; replace hcz_w0_0 := (d1_ BK_w0).1; replace BK_x0_x1_x2 := lb_ BK_x0_x1_x2 hb; replace hcz_x0_x1_x2_0 := (d3_ BK_x0_x1_x2).1; replace hcz_x0_x1_x2_1 : w18.cell? ⟨gb_x0_x1_x2, 1, none⟩ = some (.slice A_x1 l0_1.length c_x1) := (blk_cell BK_x0_x1_x2.o 1).trans rfl; replace hcz_x0_x1_x2_2 : w18.cell? ⟨gb_x0_x1_x2, 2, none⟩ = some (.slice A_x2 l0_2.length c_x2) := (blk_cell BK_x0_x1_x2.o 2).trans rfl; replace BK_g := lb_ BK_g hb; replace hcz_g_0 := (d1_ BK_g).1; obtain ⟨lo_c0, hi_c0, hz, hU, hU2, hU3⟩ := RSR_born hO hO2 hO3 HB.o; clear hO hO2 hO3; have Z_c0 := q_ hz; clear hz; obtain ⟨A_c0, c_c0, rfl⟩ := Kd.R_slice hU; have O_c0 := q_ hU; clear hU; obtain ⟨A_c1, c_c1, rfl⟩ := Kd.S_slice hU2; have O_c1 := q_ hU2; clear hU2; obtain ⟨A_c2, c_c2, rfl⟩ := Kd.R_slice hU3; have O_c2 := q_ hU3; clear hU3; have Y18 := q_ hb.size; replace HB := sb_ HB hb; clear hb)
    go_wp2_with (go_at_call 11; clear T13; refine (impl_GenCode.calls _ _ _ _ _ _ _ _ _ _ _ _ _ (C_of_R O_c0.o) (L_of_R O_c0.o) (C_of_S O_c1.o) (L_of_S O_c1.o) (C_of_R O_c2.o) (L_of_R O_c2.o) E3.o).mono ?_; rintro e w19 ⟨v_h, rfl, hO, hb⟩; replace O_a0 := Rb_ O_a0 hb; replace O_a1 := Sb_ O_a1 hb; replace O_a2 := Rb_ O_a2 hb; replace O_w0 := Sb_ O_w0 hb; replace O_g := Sb_ O_g hb; replace O_b0 := Rb_ O_b0 hb; replace O_b1 := Sb_ O_b1 hb; replace O_b2 := Rb_ O_b2 hb; replace O_c0 := Rb_ O_c0 hb; replace O_c1 := Sb_ O_c1 hb; replace O_c2 := Rb_ O_c2 hb; replace BK_p0 := lb_ BK_p0 hb; replace hcz_p0_0 := (d3_ BK_p0).1; replace hcz_p0_1 : w19.cell? ⟨gb_p0, 1, none⟩ = some (.slice A0_1 l0_1.length c0_1) := (blk_cell BK_p0.o 1).trans rfl; replace hcz_p0_2 : w19.cell? ⟨gb_p0, 2, none⟩ = some (.slice A0_2 l0_2.length c0_2) := (blk_cell BK_p0.o 2).trans rfl; replace BK_w0 := lb_ BK_w0 hb; replace hcz_w0_0 := (d1_ BK_w0).1; replace BK_x0_x1_x2 := lb_ BK_x0_x1_x2 hb; replace hcz_x0_x1_x2_0 := (d3_ BK_x0_x1_x2).1; replace hcz_x0_x1_x2_1 : w19.cell? ⟨gb_x0_x1_x2, 1, none⟩ = some (.slice A_x1 l0_1.length c_x1) := (blk_cell BK_x0_x1_x2.o 1).trans rfl; replace hcz_x0_x1_x2_2 : w19.cell? ⟨gb_x0_x1_x2, 2, none⟩ = some (.slice A_x2 l0_2.length c_x2) := (blk_cell BK_x0_x1_x2.o 2).trans rfl; replace BK_g := lb_ BK_g hb; replace hcz_g_0 := (d1_ BK_g).1; obtain ⟨lo_h, hi_h, hz, hO⟩ := S_born hO HB.o; have Z_h := q_ hz; clear hz; obtain ⟨A_h, c_h, rfl⟩ := Kd.S_slice hO; have O_h := q_ hO; clear hO; have Y19 := q_ hb.size; replace HB := sb_ HB hb; clear hb; have hal_p0_0 : ∀ o_, (w19.alloc o_).cell? ⟨gb_p0, 0, none⟩ = some (.slice A0_0 l0_0.length c0_0) := fun o_ => ((below_alloc (Below.refl _ _) o_ : Below w19.heap.size w19 _).cell (blk_lt BK_p0.o)).trans hcz_p0_0; have hal_p0_1 : ∀ o_, (w19.alloc o_).cell? ⟨gb_p0, 1, none⟩ = some (.slice A0_1 l0_1.length c0_1) := fun o_ => ((below_alloc (Below.refl _ _) o_ : Below w19.heap.size w19 _).cell (blk_lt BK_p0.o)).trans hcz_p0_1; have hal_p0_2 : ∀ o_, (w19.alloc o_).cell? ⟨gb_p0, 2, none⟩ = some (.slice A0_2 l0_2.length c0_2) := fun o_ => ((below_alloc (Below.refl _ _) o_ : Below w19.heap.size w19 _).cell (blk_lt BK_p0.o)).trans hcz_p0_2; have hal_w0_0 : ∀ o_, (w19.alloc o_).cell? ⟨gb_w0, 0, none⟩ = some (.slice A_w0 C.length c_w0) := fun o_ => ((below_alloc (Below.refl _ _) o_ : Below w19.heap.size w19 _).cell (blk_lt BK_w0.o)).trans hcz_w0_0; have hal_x0_x1_x2_0 : ∀ o_, (w19.alloc o_).cell? ⟨gb_x0_x1_x2, 0, none⟩ = some (.slice A_x0 l0_0.length c_x0) := fun o_ => ((below_alloc (Below.refl _ _) o_ : Below w19.heap.size w19 _).cell (blk_lt BK_x0_x1_x2.o)).trans hcz_x0_x1_x2_0; have hal_x0_x1_x2_1 : ∀ o_, (w19.alloc o_).cell? ⟨gb_x0_x1_x2, 1, none⟩ = some (.slice A_x1 l0_1.length c_x1) := fun o_ => ((below_alloc (Below.refl _ _) o_ : Below w19.heap.size w19 _).cell (blk_lt BK_x0_x1_x2.o)).trans hcz_x0_x1_x2_1; have hal_x0_x1_x2_2 : ∀ o_, (w19.alloc o_).cell? ⟨gb_x0_x1_x2, 2, none⟩ = some (.slice A_x2 l0_2.length c_x2) := fun o_ => ((below_alloc (Below.refl _ _) o_ : Below w19.heap.size w19 _).cell (blk_lt BK_x0_x1_x2.o)).trans hcz_x0_x1_x2_2; have hal_g_0 : ∀ o_, (w19.alloc o_).cell? ⟨gb_g, 0, none⟩ = some (.slice A_g C.length c_g) := fun o_ => ((below_alloc (Below.refl _ _) o_ : Below w19.heap.size w19 _).cell (blk_lt BK_g.o)).trans hcz_g_0)
    go_wp2_with (go_at_call 12; clear T14; clear hal_p0_0 hal_p0_1 hal_p0_2 hal_w0_0 hal_x0_x1_x2_0 hal_x0_x1_x2_1 hal_x0_x1_x2_2 hal_g_0; obtain ⟨w20, hW⟩ : ∃ w_ : World, w_ = w19.alloc (.cells #[.slice A_h C.length c_h] 29) := ⟨_, rfl⟩; obtain ⟨gb_h, hg⟩ : ∃ g_ : Nat, g_ = w19.heap.size := ⟨_, rfl⟩; rw [← hW, ← hg]; have hb : Below w19.heap.size w19 w20 := (by rw [hW]; exact below_alloc (Below.refl _ _) _); have hbox : w20.heap[gb_h]? = some (.cells #[.slice A_h C.length c_h] 29 (0, 0)) := (by rw [hW, hg]; exact blk_new _ _); replace O_a0 := Rb_ O_a0 hb; replace O_a1 := Sb_ O_a1 hb; replace O_a2 := Rb_ O_a2 hb; replace O_w0 := Sb_ O_w0 hb; replace O_g := Sb_ O_g hb; replace O_b0 := Rb_ O_b0 hb; replace O_b1 := Sb_ O_b1 hb; replace O_b2 := Rb_ O_b2 hb; replace O_c0 := Rb_ O_c0 hb; replace O_c1 := Sb_ O_c1 hb; replace O_c2 := Rb_ O_c2 hb; replace O_h := Sb_ O_h hb; replace BK_p0 := lb_ BK_p0 hb; replace hcz_p0_0 := (d3_ BK_p0).1; replace hcz_p0_1 : w20.cell? ⟨gb_p0, 1, none⟩ = some (.slice A0_1 l0_1.length c0_1) := (blk_cell BK_p0.o 1).trans rfl; replace hcz_p0_2 : w20.cell? ⟨gb_p0, 2, none⟩ = some (.slice A0_2 l0_2.length c0_2) := (blk_cell BK_p0.o 2).trans rfl; replace BK_w0 := lb_ BK_w0 hb; replace hcz_w0_0 := (d1_ BK_w0).1; replace BK_x0_x1_x2 := lb_ BK_x0_x1_x2 hb; replace hcz_x0_x1_x2_0 := (d3_ BK_x0_x1_x2).1; replace hcz_x0_x1_x2_1 : w20.cell? ⟨gb_x0_x1_x2, 1, none⟩ = some (.slice A_x1 l0_1.length c_x1) := (blk_cell BK_x0_x1_x2.o 1).trans rfl; replace hcz_x0_x1_x2_2 : w20.cell? ⟨gb_x0_x1_x2, 2, none⟩ = some (.slice A_x2 l0_2.length c_x2) := (blk_cell BK_x0_x1_x2.o 2).trans rfl; replace BK_g := lb_ BK_g hb; replace hcz_g_0 := (d1_ BK_g).1; have BK_h := q_ hbox; have GB_h := q_ hg; have LB_h := q_ (blk_lt hbox); have Y20 := q_ hb.size; replace HB := sb_ HB hb; have hcz_h_0 : w20.cell? ⟨gb_h, 0, none⟩ = some (.slice A_h C.length c_h) := (blk_cell BK_h.o 0).trans rfl; clear hb hg hbox hW; refine (laws_eqCode.calls _ _ _ _ _ _ _ _ _ (C_of_S O_h.o) (L_of_S O_h.o) (C_of_S O_w0.o) (L_of_S O_w0.o) E4.o).mono ?_; rintro e w21 ⟨rfl, hb⟩; replace O_a0 := Rb_ O_a0 hb; replace O_a1 := Sb_ O_a1 hb; replace O_a2 := Rb_ O_a2 hb; replace O_w0 := Sb_ O_w0 hb; replace O_g := Sb_ O_g hb; replace O_b0 := Rb_ O_b0 hb; replace O_b1 := Sb_ O_b1 hb; replace O_b2 := Rb_ O_b2 hb; replace O_c0 := Rb_ O_c0 hb; replace O_c1 := Sb_ O_c1 hb; replace O_c2 := Rb_ O_c2 hb; replace O_h := Sb_ O_h hb; replace BK_p0 := lb_ BK_p0 hb; replace hcz_p0_0 := (d3_ BK_p0).1; replace hcz_p0_1 : w21.cell? ⟨gb_p0, 1, none⟩ = some (.slice A0_1 l0_1.length c0_1) := (blk_cell BK_p0.o 1).trans rfl; replace hcz_p0_2 : w21.cell? ⟨gb_p0, 2, none⟩ = some (.slice A0_2 l0_2.length c0_2) := (blk_cell BK_p0.o 2).trans rfl; replace BK_w0 := lb_ BK_w0 hb; replace hcz_w0_0 := (d1_ BK_w0).1; replace BK_x0_x1_x2 := lb_ BK_x0_x1_x2 hb; replace hcz_x0_x1_x2_0 := (d3_ BK_x0_x1_x2).1; replace hcz_x0_x1_x2_1 : w21.cell? ⟨gb_x0_x1_x2, 1, none⟩ = some (.slice A_x1 l0_1.length c_x1) := (blk_cell BK_x0_x1_x2.o 1).trans rfl; replace hcz_x0_x1_x2_2 : w21.cell? ⟨gb_x0_x1_x2, 2, none⟩ = some (.slice A_x2 l0_2.length c_x2) := (blk_cell BK_x0_x1_x2.o 2).trans rfl; replace BK_g := lb_ BK_g hb; replace hcz_g_0 := (d1_ BK_g).1; replace BK_h := lb_ BK_h hb; replace hcz_h_0 := (d1_ BK_h).1; have Y21 := q_ hb.size; replace HB := sb_ HB hb; clear hb)
    go_wp2_with (go_at_call 16; clear T15; refine (len_Sg O_g.o (laws_heldCode.calls _ _ _ _ _ _ _ (C_of_S O_g.o) (L_of_S O_g.o) E7.o)).mono ?_; rintro e w22 ⟨rfl, hb⟩; replace O_a0 := Rb_ O_a0 hb; replace O_a1 := Sb_ O_a1 hb; replace O_a2 := Rb_ O_a2 hb; replace O_w0 := Sb_ O_w0 hb; replace O_g := Sb_ O_g hb; replace O_b0 := Rb_ O_b0 hb; replace O_b1 := Sb_ O_b1 hb; replace O_b2 := Rb_ O_b2 hb; replace O_c0 := Rb_ O_c0 hb; replace O_c1 := Sb_ O_c1 hb; replace O_c2 := Rb_ O_c2 hb; replace O_h := Sb_ O_h hb; replace BK_p0 := lb_ BK_p0 hb; replace hcz_p0_0 := (d3_ BK_p0).1; replace hcz_p0_1 : w22.cell? ⟨gb_p0, 1, none⟩ = some (.slice A0_1 l0_1.length c0_1) := (blk_cell BK_p0.o 1).trans rfl; replace hcz_p0_2 : w22.cell? ⟨gb_p0, 2, none⟩ = some (.slice A0_2 l0_2.length c0_2) := (blk_cell BK_p0.o 2).trans rfl; replace BK_w0 := lb_ BK_w0 hb; replace hcz_w0_0 := (d1_ BK_w0).1; replace BK_x0_x1_x2 := lb_ BK_x0_x1_x2 hb; replace hcz_x0_x1_x2_0 := (d3_ BK_x0_x1_x2).1; replace hcz_x0_x1_x2_1 : w22.cell? ⟨gb_x0_x1_x2, 1, none⟩ = some (.slice A_x1 l0_1.length c_x1) := (blk_cell BK_x0_x1_x2.o 1).trans rfl; replace hcz_x0_x1_x2_2 : w22.cell? ⟨gb_x0_x1_x2, 2, none⟩ = some (.slice A_x2 l0_2.length c_x2) := (blk_cell BK_x0_x1_x2.o 2).trans rfl; replace BK_g := lb_ BK_g hb; replace hcz_g_0 := (d1_ BK_g).1; replace BK_h := lb_ BK_h hb; replace hcz_h_0 := (d1_ BK_h).1; have Y22 := q_ hb.size; replace HB := sb_ HB hb; clear hb)
    go_ret
    exact ⟨rfl, HB.o⟩
  · obtain ⟨hm0, ⟨hm1, hg⟩, hm2⟩ := hok
    have hm0 := Nat.le_trans hm0 maxLen_le
    have hm1 := Nat.le_trans hm1 maxLen_le
    have hm2 := Nat.le_trans hm2 maxLen_le
    have hg : ∀ y ∈ l0_1, y.length ≤ 9223372036854775807 := fun y hy => Nat.le_trans (hg y hy) maxLen_le
    obtain ⟨_, g0⟩ := ev_get (laws_szDfa_ev l0_0 l0_1 l0_2 1048576 (by omega) (by omega) hm0 hm1 hm2 hg)
    rw [if_pos (by omega)] at g0
    have E0 := q_ g0
    clear g0
    have T1 : J0 True := ⟨trivial⟩
    have T2 : J0 True := ⟨trivial⟩
    go_enter Try.func3, Try.ntmps3
    go_wp2_with ((with_reducible refine gate_dst (N := 1) rfl ?_); clear T1; refine box_event ?hg (N := 1) ?hd (cs := #[.slice A0_0 l0_0.length c0_0, .slice A0_1 l0_1.length c0_1, .slice A0_2 l0_2.length c0_2]) (t := 25) ?hr ?_; (case hd => rfl); (case hg => rfl); (case hr => first | (go_simp; done) | (go_simp; rfl)); intro gb_p0 hg w1 hbox hb; have BK_p0 := q_ hbox; have GB_p0 := q_ hg; have LB_p0 := q_ (blk_lt hbox); have Y1 := q_ hb.size; replace HB := sb_ HB hb; have hcz_p0_0 : w1.cell? ⟨gb_p0, 0, none⟩ = some (.slice A0_0 l0_0.length c0_0) := (blk_cell BK_p0.o 0).trans rfl; have hcz_p0_1 : w1.cell? ⟨gb_p0, 1, none⟩ = some (.slice A0_1 l0_1.length c0_1) := (blk_cell BK_p0.o 1).trans rfl; have hcz_p0_2 : w1.cell? ⟨gb_p0, 2, none⟩ = some (.slice A0_2 l0_2.length c0_2) := (blk_cell BK_p0.o 2).trans rfl; clear hb hg hbox)
    go_wp2_with (go_at_call 8; clear T2; refine (laws_szDfa.calls _ _ _ _ _ _ _ _ _ _ _ _ _ (Kd.C_below HR_l0_0.o HB.o) (HC_l0_0.o) (Kd.C_below HR_l0_1.o HB.o) (HC_l0_1.o) (Kd.C_below HR_l0_2.o HB.o) (HC_l0_2.o) E0.o).mono ?_; rintro e w2 ⟨rfl, hb⟩; replace BK_p0 := lb_ BK_p0 hb; replace hcz_p0_0 := (d3_ BK_p0).1; replace hcz_p0_1 : w2.cell? ⟨gb_p0, 1, none⟩ = some (.slice A0_1 l0_1.length c0_1) := (blk_cell BK_p0.o 1).trans rfl; replace hcz_p0_2 : w2.cell? ⟨gb_p0, 2, none⟩ = some (.slice A0_2 l0_2.length c0_2) := (blk_cell BK_p0.o 2).trans rfl; have Y2 := q_ hb.size; replace HB := sb_ HB hb; clear hb)
    go_ret
    exact ⟨rfl, HB.o⟩
end Go.Proofs.Ytlecpdpdcocibaa.P
namespace Go.Proofs.YtlecpdpdcocibaaOpen
open Go.RowKit Go.ChangeShapes Go.WideShapes Go.Proofs.YtlecpdpdcocibaaW.PrintWords
set_option linter.unusedVariables false
set_option linter.unusedSimpArgs false
structure Opens {α : Type} (P : Program) (t : TypeId) (k : Kd α) (G : α → Prop) : Prop where
  sz : P.cellsOf t = k.sz
  op : ∀ {H : Type} (enc : TypeId × Value → H) (w : World) (base : Nat) (spare : Nat → Bool) (held : Bool) (fuel : Nat) (cs : List Value) (x : DataW H × List MemPlace), DataW.trod enc P w base spare held fuel t cs = some x → ∃ v, k.K w v cs ∧ G v
variable {P : Program} {t e : TypeId}
theorem opens_int {k : IntKind} (ht : P.underlying t = some (.int k)) (hc : P.cellsOf t = 1) : Opens P t (Kd.int k) (fun n => (Lit.int k n).wf = true) where
  sz := hc
  op := fun enc w base spare held fuel cs x h => by
    obtain ⟨n, rfl, _, hw⟩ := DataW.trod_int ht h
    exact ⟨n, rfl, hw⟩
theorem opens_bool (ht : P.underlying t = some .bool) (hc : P.cellsOf t = 1) : Opens P t Kd.bool (fun _ => True) where
  sz := hc
  op := fun enc w base spare held fuel cs x h => by
    obtain ⟨b, rfl, _⟩ := DataW.trod_bool ht h
    exact ⟨b, rfl, trivial⟩
theorem opens_string (ht : P.underlying t = some .string) (hc : P.cellsOf t = 1) : Opens P t Kd.string (fun s => s.size ≤ maxLen) where
  sz := hc
  op := fun enc w base spare held fuel cs x h => by
    obtain ⟨s, rfl, _, hs⟩ := DataW.trod_string ht h
    exact ⟨s, rfl, hs⟩
theorem exists_list {α : Type} {p : Nat → α → Prop} : ∀ n, (∀ i, i < n → ∃ v, p i v) → ∃ xs : List α, xs.length = n ∧ ∀ i v, xs[i]? = some v → p i v
  | 0, _ => ⟨[], rfl, fun i v h => by simp at h⟩
  | n + 1, h => by
    obtain ⟨xs, hl, hx⟩ := exists_list n (fun i hi => h i (by omega))
    obtain ⟨v, hv⟩ := h n (by omega)
    refine ⟨xs ++ [v], by simp [hl], fun i u hu => ?_⟩
    by_cases hi : i < n
    · rw [List.getElem?_append_left (by omega)] at hu
      exact hx i u hu
    · rw [List.getElem?_append_right (by omega)] at hu
      have : i - xs.length = 0 := by
        have := (List.getElem?_eq_some_iff.1 hu).1
        simp at this
        omega
      rw [this] at hu
      have hi' : i = n := by omega
      subst hi'
      simp at hu
      subst hu
      exact hv
theorem opens_slice {α : Type} {k : Kd α} {G : α → Prop} (ht : P.underlying t = some (.slice e)) (hc : P.cellsOf t = 1) (h : Opens P e k G) : Opens P t (Kd.slice e k) (fun xs => xs.length ≤ maxLen ∧ ∀ x ∈ xs, G x) where
  sz := hc
  op := fun enc w base spare held fuel cs x hx => by
    rcases DataW.trod_slice ht hx with ⟨rfl, rfl⟩ | ⟨a, len, cap, elems, rest, n, _, rfl, _, _, hl, hm, hlen, hel, _, _⟩
    · exact ⟨[], ⟨none, 0, rfl, Nat.le_refl _, Kd.C_nil k w⟩, by simp, fun x hx => absurd hx List.not_mem_nil⟩
    · have each : ∀ i, i < len → ∃ v, G v ∧ ∃ c, c.length = k.sz ∧ k.K w v c ∧ ∀ j u, c[j]? = some u → w.cell? (a.add (i * k.sz + j)) = some u := by
        intro i hi
        have h1 := hel i hi
        rw [List.getElem?_eq_getElem (by omega), Option.bind_eq_some_iff, h.sz] at h1
        obtain ⟨c, hc1, hc2⟩ := h1
        obtain ⟨v, hv, hg⟩ := h.op enc w base spare held n c _ hc2
        obtain ⟨_, hcl, hcell⟩ := World.cells?_some hc1
        refine ⟨v, hg, c, hcl, hv, fun j u hu => ?_⟩
        have hj : j < k.sz := by
          have := (List.getElem?_eq_some_iff.1 hu).1
          omega
        rw [← Addr.add_add, hcell j hj]
        exact hu
      obtain ⟨xs, hxl, hx⟩ := exists_list len each
      have hmx : (maxLen : Nat) ≤ 9223372036854775807 := by unfold maxLen; omega
      refine ⟨xs, ⟨some a, cap, by rw [hxl], by omega, ?_⟩, by omega, fun x hx' => ?_⟩
      · refine ⟨rfl, by omega, fun _ => ⟨a, rfl, fun j p hp => ?_⟩⟩
        obtain ⟨_, c, h1, h2, h3⟩ := hx j p hp
        exact ⟨c, h1, h2, h3⟩
      · obtain ⟨i, hi⟩ := List.mem_iff_getElem?.1 hx'
        exact (hx i x hi).1
structure Fields {α : Type} (P : Program) (fs : List Field) (off : Nat) (k : Kd α) (G : α → Prop) : Prop where
  from_ : ∀ f ∈ fs, off ≤ f.offset
  op : ∀ {H : Type} (enc : TypeId × Value → H) (w : World) (base : Nat) (spare : Nat → Bool) (held : Bool) (n : Nat) (cs : List Value), cs.length = k.sz → (∀ f ∈ fs, ∃ y, DataW.trod enc P w base spare held n f.type ((cs.drop (f.offset - off)).take (P.cellsOf f.type)) = some y) → ∃ v, k.K w v cs ∧ G v
theorem fields_one {α : Type} {k : Kd α} {G : α → Prop} {f : Field} (h : Opens P f.type k G) : Fields P [f] f.offset k G where
  from_ := fun g hg => by rw [List.mem_singleton.1 hg]; exact Nat.le_refl _
  op := fun enc w base spare held n cs hl hf => by
    obtain ⟨y, hy⟩ := hf f (by simp)
    rw [Nat.sub_self, List.drop_zero, h.sz, ← hl, List.take_length] at hy
    exact h.op enc w base spare held n cs y hy
theorem fields_cons {α β : Type} {k : Kd α} {k' : Kd β} {G : α → Prop} {G' : β → Prop} {f : Field} {fs : List Field} (h : Opens P f.type k G) (hs : Fields P fs (f.offset + k.sz) k' G') : Fields P (f :: fs) f.offset (Kd.pair k k') (fun x => G x.1 ∧ G' x.2) where
  from_ := fun g hg => by
    rcases List.mem_cons.1 hg with rfl | hg
    · exact Nat.le_refl _
    · have := hs.from_ g hg
      omega
  op := fun enc w base spare held n cs hl hf => by
    have hl' : cs.length = k.sz + k'.sz := hl
    obtain ⟨y, hy⟩ := hf f (by simp)
    rw [Nat.sub_self, List.drop_zero, h.sz] at hy
    obtain ⟨v, hv, hg⟩ := h.op enc w base spare held n _ y hy
    obtain ⟨u, hu, hg'⟩ := hs.op enc w base spare held n (cs.drop k.sz) (by rw [List.length_drop]; omega) (fun g hg => by
      obtain ⟨y, hy⟩ := hf g (by simp [hg])
      refine ⟨y, ?_⟩
      have := hs.from_ g hg
      rw [List.drop_drop, show k.sz + (g.offset - (f.offset + k.sz)) = g.offset - f.offset by omega]
      exact hy)
    exact ⟨(v, u), ⟨cs.take k.sz, cs.drop k.sz, (List.take_append_drop _ _).symm, hv, hu⟩, hg, hg'⟩
theorem opens_struct {α : Type} {k : Kd α} {G : α → Prop} {fs : Array Field} (ht : P.underlying t = some (.struct fs)) (hc : P.cellsOf t = k.sz) (h : Fields P fs.toList 0 k G) : Opens P t k G where
  sz := hc
  op := fun enc w base spare held fuel cs x hx => by
    obtain ⟨xs, n, _, _, hl, hlen, hf⟩ := DataW.trod_struct ht hx
    refine h.op enc w base spare held n cs (hl.trans hc) (fun f hf' => ?_)
    obtain ⟨i, hi⟩ := List.mem_iff_getElem?.1 hf'
    rw [Array.getElem?_toList] at hi
    have h1 := hf i f hi
    have : i < fs.size := by
      have := (Array.getElem?_eq_some_iff.1 hi).1
      exact this
    rw [List.getElem?_eq_getElem (by omega)] at h1
    rw [Nat.sub_zero]
    exact ⟨_, h1⟩
theorem opens_iso {α β : Type} {k : Kd α} {G : α → Prop} (f : β → α) (g : α → β) (hfg : ∀ x, f (g x) = x) (h : Opens P t k G) : Opens P t (Kd.iso k f) (fun y => G (f y)) where
  sz := h.sz
  op := fun enc w base spare held fuel cs x hx => by
    obtain ⟨v, hv, hg⟩ := h.op enc w base spare held fuel cs x hx
    exact ⟨g v, by show k.K w (f (g v)) cs; rw [hfg]; exact hv, by rw [hfg]; exact hg⟩
theorem opens_imp {α : Type} {k : Kd α} {G G' : α → Prop} (h : Opens P t k G) (hg : ∀ x, G x → G' x) : Opens P t k G' where
  sz := h.sz
  op := fun enc w base spare held fuel cs x hx => by
    obtain ⟨v, hv, hh⟩ := h.op enc w base spare held fuel cs x hx
    exact ⟨v, hv, hg v hh⟩
end Go.Proofs.YtlecpdpdcocibaaOpen
set_option linter.unusedVariables false
namespace Go.Proofs.Ytlecpdpdcocibaa.fnExactGenCode.Pure
open Go.RowKit Go.Proofs.YtlecpdpdcocibaaW.PrintWords Go.Proofs.YtlecpdpdcocibaaW.PrintLast Go.Proofs.Ytlecpdpdcocibaa.P Go.Proofs.YtlecpdpdcocibaaEv
theorem pure_FnExactGenCode : ∀ (l0_0 : List Int) (l0_1 : List (List Int)) (l0_2 : List Int), (l0_0.length ≤ maxLen ∧ ∀ y ∈ l0_0, (Lit.int .i64 y).wf = true) → (l0_1.length ≤ maxLen ∧ ∀ y ∈ l0_1, (y.length ≤ maxLen ∧ ∀ z ∈ y, (Lit.int .i64 z).wf = true)) → (l0_2.length ≤ maxLen ∧ ∀ y ∈ l0_2, (Lit.int .i64 y).wf = true) → ∃ k, laws_FnExactGenCode.f k l0_0 l0_1 l0_2 = some true := by
  intro l0_0 l0_1 l0_2 h0 h1 h2
  exact ⟨0, if_pos (⟨h0.1, ⟨h1.1, fun y hy => (h1.2 y hy).1⟩, h2.1⟩)⟩
end Go.Proofs.Ytlecpdpdcocibaa.fnExactGenCode.Pure
namespace Go.Proofs.Ytlecpdpdcocibaa.fnExactGenCode
open Go.ChangeShapes Go.WideShapes Go.ChangeAt Go.RowKit Go.Proofs.YtlecpdpdcocibaaW.PrintWords Go.Proofs.YtlecpdpdcocibaaOpen Go.Proofs.Ytlecpdpdcocibaa.P
open Go.ChangeMaps (open_string shut_string)
set_option linter.unusedVariables false
set_option linter.unusedSimpArgs false
theorem own : ownKnob Try.prog.godebug = none := by kernel_rfl
theorem laidOut : laidOutB Try.prog = true := by kernel_rfl
theorem lifted (os : Os) (started : os.Started) (H : Type) (enc : TypeId × Value → H) :
    ReturnsInHanded {} Try.checked os 3 .any (Rows.fnExactGenCodeSpec.pre6 enc Try.prog Try.f3 Rows.fnExactGenCodeRow.domain false) (Rows.fnExactGenCodeSpec.post enc Try.prog Try.f3 false true false false) := by
  refine returnsInHanded_of_change_sized (C := Try.checked) own started (by kernel_rfl) Try.func3
    (ChangeSpec.witness6 (enc := enc) (C := Try.checked) false ⟨#[], #[.agg #[.slice none 0 0, .slice none 0 0, .slice none 0 0]], []⟩ 8 (by kernel_rfl) (by kernel_rfl) (by kernel_rfl) (by kernel_rfl)) ?_
  intro W base args ds gs before hval0 hW hcnd hsz0 _
  have hsz : (DataW.weightsEach Try.prog (Try.f3.params.toList ++ Rows.fnExactGenCodeSpec.plain.varTypes Try.prog) (ds ++ gs)).all (· ≤ reachBytes) = true := hsz0
  have hval : ∀ (j : Nat) t v, Try.f3.params[j]? = some t → args[j]? = some v → Value.okWide Try.prog W .any base t v := hval0
  have hW' := hW
  obtain ⟨p, q, hA0, hV, rfl, hfz, hnd⟩ := hW
  have hA : DataW.TrodAll enc Try.prog W 0 (fun _ => true) true Try.f3.params.toList args.toList ds p := hA0
  rw [Try.params3] at hA hval hsz
  obtain ⟨v0, vs0, d0, ds0, p0, q0, hargs, rfl, rfl, h0, r0⟩ := trodAll_cons hA
  obtain ⟨rfl, rfl, rfl⟩ := trodAll_nil r0
  obtain rfl : args = #[v0] := by cases args; simp_all
  obtain ⟨rfl, rfl⟩ := trodVars_none hV
  have k0' := h0
  have lt0 : ∀ x ∈ p0, x.block < W.heap.size := by obtain ⟨m, hm⟩ := k0'; exact DataW.trod_lt m _ _ _ hm
  obtain ⟨cs0, rfl, hn0⟩ := okWide_struct Try.underlying25 (hval 0 25 v0 rfl rfl)
  obtain ⟨fuel0, hf0⟩ := h0
  have hf0' : DataW.trod enc Try.prog W 0 (fun _ => true) true fuel0 25 cs0.toList = some (d0, p0) := hf0
  obtain ⟨x0, hK0, hG0⟩ := (opens_struct Try.underlying25 (by kernel_rfl) (fields_cons (opens_slice Try.underlying22 (by kernel_rfl) (opens_int Try.underlying2 (by kernel_rfl))) (fields_cons (opens_slice Try.underlying23 (by kernel_rfl) (opens_slice Try.underlying22 (by kernel_rfl) (opens_int Try.underlying2 (by kernel_rfl)))) (fields_one (opens_slice Try.underlying22 (by kernel_rfl) (opens_int Try.underlying2 (by kernel_rfl))))))).op enc W 0 (fun _ => true) true fuel0 _ _ hf0'
  have hG0' := hG0
  obtain ⟨ca0_0, cb0_0, he0_0, hx0_0, hy0_0⟩ := hK0
  obtain ⟨ga0_0, gb0_0⟩ := hG0'
  obtain ⟨A0_0, c0_0, hs0_0, hl0_0, hC0_0⟩ := hx0_0
  obtain ⟨ca0_1, cb0_1, he0_1, hx0_1, hy0_1⟩ := hy0_0
  obtain ⟨ga0_1, gb0_1⟩ := gb0_0
  obtain ⟨A0_1, c0_1, hs0_1, hl0_1, hC0_1⟩ := hx0_1
  obtain ⟨A0_2, c0_2, hs0_2, hl0_2, hC0_2⟩ := hy0_1
  obtain rfl : cs0 = #[.slice A0_0 (x0).1.length c0_0, .slice A0_1 ((x0).2).1.length c0_1, .slice A0_2 ((x0).2).2.length c0_2] := by
    apply Array.ext'
    simp only [he0_0, hs0_0, he0_1, hs0_1, hs0_2, List.cons_append, List.nil_append]
  clear hA0 hval0 hsz0 hsz
  obtain ⟨k, hk⟩ := Pure.pure_FnExactGenCode _ _ _ ga0_0 ga0_1 gb0_1
  refine (laws_FnExactGenCode.calls k A0_0 c0_0 _ A0_1 c0_1 _ A0_2 c0_2 _ true W hC0_0 hl0_0 hC0_1 hl0_1 hC0_2 hl0_2 hk).mono fun e W' ⟨he, bel0⟩ => ?_
  have bel : Below W.heap.size W W' := bel0
  subst he
  exact ⟨_, rfl, _, _, _, [], _, [], hW', trodAll_mk1 (shut_bool Try.underlying4 _), (trodAll_cons_mk (Below.trod laidOut (by kernel_rfl) (of_decide_eq_true (by kernel_rfl)) k0' bel lt0) trodAll_mk0), rfl, bel.frame _, fun h => by cases h⟩
theorem over : Rows.fnExactGenCodeRow.holds Try.pinned (OpenSpec.ofChange Rows.fnExactGenCodeSpec) :=
  OpenClaim.holds_of_wide 3 Try.f3 rfl rfl rfl rfl rfl rfl rfl ⟨rfl, rfl, rfl, rfl, rfl⟩ rfl rfl rfl rfl rfl (by kernel_rfl) Try.func3 (by kernel_rfl)
    (of_decide_eq_true (by kernel_rfl)) (by unfold Func.isWrapper; first | (rw [if_pos (by decide +kernel)]; kernel_rfl) | (rw [if_neg (by decide +kernel)]; exact ⟨rfl, rfl⟩))
    (fun os started H enc _ => lifted os started H enc)
theorem proved : Rows.FnExactGenCodeSaid := over
#print axioms proved
end Go.Proofs.Ytlecpdpdcocibaa.fnExactGenCode
namespace Go.Proofs.Ytlecpdpdcocibaa
theorem fnExactGenCode_holds : Rows.FnExactGenCodeSaid := fnExactGenCode.proved
end Go.Proofs.Ytlecpdpdcocibaa
