/- The law FnExactStreamOk holds for every call: part 5 of 6 of the proof (walks of functions, and what they answer). Conditions: none beyond what the given row says. -/
import Derived.Test.YtijmhelacmjggaaMFnExactStreamOk0
import Derived.Test.YtijmhelacmjggaaMFnExactStreamOk2
import Derived.Shelf.Abstract
import Derived.Lib.Hide
import Derived.Test.YtijmhelacmjggaaMFnExactStreamOk3
import Derived.Test.YtijmhelacmjggaaMFnExactStreamOk1
import Derived.ChangeSlices
import Derived.ChangeArms
namespace Go.Proofs.Ytijmhelacmjggaa.P
open Go.RowKit Go.Proofs.YtijmhelacmjggaaW.PrintWords Go.Proofs.YtijmhelacmjggaaW.PrintLast Go.Proofs.YtijmhelacmjggaaW.PrintMore
attribute [local go_sem] max2_int min2_int max_two min_two max_three min_three max_four min_four
set_option linter.unusedVariables false
set_option linter.unusedSimpArgs false
/-! ### laws_toStream: function 35 -/
def laws_toStream.f (k : Nat) (l0_0 : List Int) (a0_1 : ByteArray) (a0_2 : Int) (a0_3 : Int) (a0_4 : Int) (a0_5 : Int) : Option (List Int × ByteArray × Int × Int × Int × Int) := (laws_toInt64S.f k l0_0).bind fun t104 => (some (t104, a0_1, a0_2, a0_3, a0_4, a0_5))
set_option maxHeartbeats 8000000 in
set_option maxRecDepth 100000 in
theorem laws_toStream.calls (k : Nat) (A0_0 : Option Addr) (c0_0 : Nat) (l0_0 : List Int) (a0_1 : ByteArray) (a0_2 : Int) (a0_3 : Int) (a0_4 : Int) (a0_5 : Int) (r1 : List Int) (r2 : ByteArray) (r3 : Int) (r4 : Int) (r5 : Int) (r6 : Int) (w : World) (hr0_0 : Kd.C (Kd.int .i64) w A0_0 l0_0.length l0_0) (hc0_0 : l0_0.length ≤ c0_0) (h : laws_toStream.f k l0_0 a0_1 a0_2 a0_3 a0_4 a0_5 = some (r1, r2, r3, r4, r5, r6)) :
  Calls Try.prog 35 #[.agg #[.slice A0_0 l0_0.length c0_0, .string a0_1, .int .i64 a0_2, .int .i64 a0_3, .int .i64 a0_4, .int .i64 a0_5]] w fun e w' => ∃ v0_ : Value, e = .returned (.agg #[v0_, .string r2, .int .i64 r3, .int .i64 r4, .int .i64 r5, .int .i64 r6]) ∧ Kd.R (Kd.int .i64) 2 w' w.heap.size (fun _ => True) v0_ r1 ∧ Below w.heap.size w w' := by
 have hu58 := Try.underlying58
 have hu61 := Try.underlying61
 have HR0_0 := Aside0.mk hr0_0
 have HC0_0 := Aside0.mk hc0_0
 clear hr0_0 hc0_0
 have HB := Aside0.mk (Below.refl w.heap.size w)
 have H : ((laws_toInt64S.f k l0_0).bind fun t104 => (some (t104, a0_1, a0_2, a0_3, a0_4, a0_5))) = some (r1, r2, r3, r4, r5, r6) := h
 clear h
 obtain ⟨t104, A2, H⟩ := ob_ H
 simp only [Option.some.injEq, Prod.mk.injEq] at H
 obtain ⟨rfl, rfl, rfl, rfl, rfl, rfl⟩ := H
 go_enter Try.func35, Try.ntmps35
 go_wp2_with (first | ((with_reducible refine gate_dst (N := 1) rfl ?_); refine bx_ 1 #[.slice A0_0 l0_0.length c0_0, .string a0_1, .int .i64 a0_2, .int .i64 a0_3, .int .i64 a0_4, .int .i64 a0_5] 58 ?_; intro gb101 hg w3 hbox hb; have BK101 := Aside0.mk (hbox); have GW101 := ge_ hg HB; have GE101 := GW101; replace HB := sb_ HB hb; clear hb hbox hg) | ((with_reducible refine gate_dst (N := 2) rfl ?_); refine bx_ 2 #[.slice none 0 0, .string (⟨#[]⟩ : ByteArray), .int .i64 0, .int .i64 0, .int .i64 0, .int .i64 0] 61 ?_; intro gb102 hg w4 hbox hb; have BK102 := Aside0.mk (hbox); have GW102 := ge1_ hg HB GE101; have GE102 := GW102; have NB101_102 := nl_ hg BK101; have NB102_101 := ng_ hg BK101; replace BK101 := lb_ BK101 hb; replace HB := sb1_ HB GE101 hb; clear hb hbox hg) | ((with_reducible refine gate_dst (N := 3) rfl ?_); refine bx_ 3 #[.slice none 0 0, .string (⟨#[]⟩ : ByteArray), .int .i64 0, .int .i64 0, .int .i64 0, .int .i64 0] 61 ?_; intro gb103 hg w5 hbox hb; have BK103 := Aside0.mk (hbox); have GW103 := ge2_ hg HB GE101 GE102; have GE103 := GW103; have NB101_103 := nl_ hg BK101; have NB103_101 := ng_ hg BK101; have NB102_103 := nl_ hg BK102; have NB103_102 := ng_ hg BK102; replace BK101 := lb_ BK101 hb; replace BK102 := lb_ BK102 hb; replace HB := sb2_ HB GE101 GE102 hb; clear hb hbox hg; have hnb6 := NB101_102.out; have hnc6 := NB102_101.out; have hnb7 := NB101_103.out; have hnc7 := NB103_101.out; obtain ⟨hcz8_0, hcz8_1, hcz8_2, hcz8_3, hcz8_4, hcz8_5, hfz8_0, hfz8_1, hfz8_2, hfz8_3, hfz8_4, hfz8_5⟩ := d6_ BK101) | ((with_reducible refine gate_callee (f := 92) rfl ?_); refine gl_ (some 6) rfl rfl Try.func92 #[.slice A0_0 l0_0.length c0_0] ?_; (with_reducible refine (laws_toInt64S.calls k _ _ l0_0 t104 _ ?side1 ?side2 A2.out).mono ?_); (case side1 => exact Kd.C_below HR0_0.out (be_ HB.out)); (case side2 => exact HC0_0.out); rintro e w9 ⟨v105, rfl, ho0, hb⟩; refine ⟨_, rfl, ?_⟩; have HO106 := Aside0.mk (Kd.R_lower ho0 (below_size (be3_ HB.out GE101.out GE102.out GE103.out))); replace BK101 := lb_ BK101 hb; replace BK102 := lb_ BK102 hb; replace BK103 := lb_ BK103 hb; replace HB := sb3_ HB GE101 GE102 GE103 hb; (try clear hb); (try clear ho0); obtain ⟨Ao10, co10, eo10⟩ := Kd.R_slice HO106.out; subst eo10; have hnb11 := NB103_102.out; have hnc11 := NB102_103.out; obtain ⟨hcz12_0, hcz12_1, hcz12_2, hcz12_3, hcz12_4, hcz12_5, hfz12_0, hfz12_1, hfz12_2, hfz12_3, hfz12_4, hfz12_5⟩ := d6_ BK103; obtain ⟨hcz13_0, hcz13_1, hcz13_2, hcz13_3, hcz13_4, hcz13_5, hfz13_0, hfz13_1, hfz13_2, hfz13_3, hfz13_4, hfz13_5⟩ := d6_ BK101; obtain ⟨hcz14_0, hcz14_1, hcz14_2, hcz14_3, hcz14_4, hcz14_5, hfz14_0, hfz14_1, hfz14_2, hfz14_3, hfz14_4, hfz14_5⟩ := d6_ BK102))
 refine bodyPost_ret (results_cell_row rfl _ _ gb102 61 #[.slice Ao10 t104.length co10, .string a0_1, .int .i64 a0_2, .int .i64 a0_3, .int .i64 a0_4, .int .i64 a0_5] (0, 0) _ rfl (by (with_reducible repeat (first | refine blk_drewN ?_ _ | refine blk_drew ?_ | refine blk_alloc ?_ _)); refine blk_put (cs := #[.slice Ao10 t104.length co10, .string a0_1, .int .i64 a0_2, .int .i64 a0_3, .int .i64 a0_4, .int .i64 0]) ?_ 5 _ rfl; (with_reducible repeat (first | refine blk_drewN ?_ _ | refine blk_drew ?_ | refine blk_alloc ?_ _)); refine blk_put (cs := #[.slice Ao10 t104.length co10, .string a0_1, .int .i64 a0_2, .int .i64 a0_3, .int .i64 0, .int .i64 0]) ?_ 4 _ rfl; (with_reducible repeat (first | refine blk_drewN ?_ _ | refine blk_drew ?_ | refine blk_alloc ?_ _)); refine blk_put (cs := #[.slice Ao10 t104.length co10, .string a0_1, .int .i64 a0_2, .int .i64 0, .int .i64 0, .int .i64 0]) ?_ 3 _ rfl; (with_reducible repeat (first | refine blk_drewN ?_ _ | refine blk_drew ?_ | refine blk_alloc ?_ _)); refine blk_put (cs := #[.slice Ao10 t104.length co10, .string a0_1, .int .i64 0, .int .i64 0, .int .i64 0, .int .i64 0]) ?_ 2 _ rfl; (with_reducible repeat (first | refine blk_drewN ?_ _ | refine blk_drew ?_ | refine blk_alloc ?_ _)); refine blk_put (cs := #[.slice Ao10 t104.length co10, .string (⟨#[]⟩ : ByteArray), .int .i64 0, .int .i64 0, .int .i64 0, .int .i64 0]) ?_ 1 _ rfl; (with_reducible repeat (first | refine blk_drewN ?_ _ | refine blk_drew ?_ | refine blk_alloc ?_ _)); refine blk_put (cs := #[.slice none 0 0, .string (⟨#[]⟩ : ByteArray), .int .i64 0, .int .i64 0, .int .i64 0, .int .i64 0]) ?_ 0 _ rfl; (with_reducible repeat (first | refine blk_drewN ?_ _ | refine blk_drew ?_ | refine blk_alloc ?_ _)); refine blk_far ?_ NB102_103.out _; (with_reducible repeat (first | refine blk_drewN ?_ _ | refine blk_drew ?_ | refine blk_alloc ?_ _)); refine blk_far ?_ NB102_103.out _; (with_reducible repeat (first | refine blk_drewN ?_ _ | refine blk_drew ?_ | refine blk_alloc ?_ _)); refine blk_far ?_ NB102_103.out _; (with_reducible repeat (first | refine blk_drewN ?_ _ | refine blk_drew ?_ | refine blk_alloc ?_ _)); refine blk_far ?_ NB102_103.out _; (with_reducible repeat (first | refine blk_drewN ?_ _ | refine blk_drew ?_ | refine blk_alloc ?_ _)); refine blk_far ?_ NB102_103.out _; (with_reducible repeat (first | refine blk_drewN ?_ _ | refine blk_drew ?_ | refine blk_alloc ?_ _)); refine blk_far ?_ NB102_103.out _; (with_reducible repeat (first | refine blk_drewN ?_ _ | refine blk_drew ?_ | refine blk_alloc ?_ _)); exact BK102.out) Try.underlying61 rfl (by kernel_rfl)) rfl ?_
 exact ⟨_, rt_, by (with_reducible repeat (first | apply Kd.R_alloc | apply Kd.R_drewN | apply Kd.R_drew)); exact Kd.R_mono (Kd.R_far (p := ⟨gb102, 5, none⟩) (Kd.R_far (p := ⟨gb102, 4, none⟩) (Kd.R_far (p := ⟨gb102, 3, none⟩) (Kd.R_far (p := ⟨gb102, 2, none⟩) (Kd.R_far (p := ⟨gb102, 1, none⟩) (Kd.R_far (p := ⟨gb102, 0, none⟩) (Kd.R_far (p := ⟨gb103, 5, none⟩) (Kd.R_far (p := ⟨gb103, 4, none⟩) (Kd.R_far (p := ⟨gb103, 3, none⟩) (Kd.R_far (p := ⟨gb103, 2, none⟩) (Kd.R_far (p := ⟨gb103, 1, none⟩) (Kd.R_far (p := ⟨gb103, 0, none⟩) (Kd.R_types (Kd.R_types HO106.out BK103.out (by decide)) BK102.out (by decide)) (fun _ hk => hk.1.2) (.slice Ao10 t104.length co10)) (fun _ hk => hk.1.2) (.string a0_1)) (fun _ hk => hk.1.2) (.int .i64 a0_2)) (fun _ hk => hk.1.2) (.int .i64 a0_3)) (fun _ hk => hk.1.2) (.int .i64 a0_4)) (fun _ hk => hk.1.2) (.int .i64 a0_5)) (fun _ hk => hk.2) (.slice Ao10 t104.length co10)) (fun _ hk => hk.2) (.string a0_1)) (fun _ hk => hk.2) (.int .i64 a0_2)) (fun _ hk => hk.2) (.int .i64 a0_3)) (fun _ hk => hk.2) (.int .i64 a0_4)) (fun _ hk => hk.2) (.int .i64 a0_5)) (fun _ hk => trivial), be3_ HB.out GE101.out GE102.out GE103.out⟩
/-! ### impl_Mode_80: function 80 -/
def impl_Mode_80.f (l0 : List (S108)) : Option (Int) := some (l0.length : Int)
set_option maxHeartbeats 8000000 in
set_option maxRecDepth 100000 in
theorem impl_Mode_80.calls (A0 : Option Addr) (c0 : Nat) (l0 : List (S108)) (r : Int) (w : World) (hr0 : Kd.C k108 w A0 l0.length l0) (hc0 : l0.length ≤ c0) (h : impl_Mode_80.f l0 = some r) :
  Calls Try.prog 80 #[.slice A0 l0.length c0] w fun e w' => e = .returned (.int .i64 r) ∧ Drawn0 w w' := by
 have HR0 := Aside0.mk hr0
 have HC0 := Aside0.mk hc0
 clear hr0 hc0
 have H : (some (l0.length : Int)) = some r := h
 clear h
 obtain rfl := Option.some.inj H
 go_enter Try.func80, Try.ntmps80
 go_wp2
 go_ret
 exact ⟨by first | rfl | (simp; done) | (simp [*]; done), by repeat (first | exact Drawn0.refl _ | apply Drawn0.step)⟩
end Go.Proofs.Ytijmhelacmjggaa.P
namespace Go.Proofs.Ytijmhelacmjggaa.P
open Go.RowKit Go.Shelf Go.Proofs.YtijmhelacmjggaaW.PrintWords Go.Proofs.YtijmhelacmjggaaW.PrintLast Go.Proofs.YtijmhelacmjggaaW.PrintMore Go.Proofs.YtijmhelacmjggaaEv
set_option linter.unusedVariables false
set_option linter.unusedSimpArgs false
def AskRule (g : Nat) (lb : Array Value) (w : World) (l0 : List S113) (p : S113 → Bool) : Prop := ∀ (W : World) (x : S113) (A1 : Option Addr) (c1 : Nat), x ∈ l0 → Below w.heap.size w W → Kd.C k156 W A1 x.f1.f0.length x.f1.f0 → x.f1.f0.length ≤ c1 →
  Calls Try.prog g (#[.agg #[.string x.f0, .slice A1 x.f1.f0.length c1, .bool x.f2, .int .i64 x.f3, .string x.f4]] ++ lb) W fun e w' => e = .returned (.bool (p x)) ∧ Below W.heap.size W w'
set_option maxHeartbeats 4000000 in
theorem IndexFunc_Rule (g : Nat) (lb : Array Value) (eg : ∀ args w, (callFunc g args).run Try.prog w = .ok (.enter g args) w) (p : S113 → Bool) (A0 : Option Addr) (c0 : Nat) (l0 : List S113) (w : World) (hr0 : Kd.C k113 w A0 l0.length l0)
    (hp : AskRule g lb w l0 p) :
    Calls Try.prog 131 #[.slice A0 l0.length c0, .func (.func g) #[] lb] w fun e w' => e = .returned (.int .i64 (idxP p l0 0)) ∧ Below w.heap.size w w' := by
  have HP := Lib.hid hp
  clear hp
  have hn := hr0.2.1
  have HR := Aside0.mk hr0
  clear hr0
  go_enter Try.func131, Try.ntmps131
  go_wp2
  go_loopg [5, 8] l0.length (fun gg _ s8 wr => ∃ kk : Nat, kk ≤ l0.length ∧ l0.length - kk ≤ gg ∧ s8 = .int .i64 kk ∧ Aside0 (Below w.heap.size w wr) ∧ Aside0 (idxP p l0 0 = idxP p (l0.drop kk) kk))
  case atStart => exact ⟨0, Nat.zero_le _, by omega, rfl, ⟨Below.refl _ w⟩, ⟨by simp⟩⟩
  case round =>
    obtain ⟨kk, hkk, hg, rfl, BW, HA⟩ := hrel
    by_cases hlt : kk < l0.length
    · have hltz : (kk : Int) < (l0.length : Int) := by omega
      obtain ⟨ad, A1, c1, rfl, hx0, hx1, hx2, hx3, hx4, hl, hi⟩ := at_T113 HR.out (kk : Int) (by omega) hltz
      rw [Int.toNat_natCast] at hx0 hx1 hx2 hx3 hx4
      replace hx0 := mv_ BW.out hx0
      replace hx1 := mv_ BW.out hx1
      replace hx2 := mv_ BW.out hx2
      replace hx3 := mv_ BW.out hx3
      replace hx4 := mv_ BW.out hx4
      have hmem : rd_T113 l0 (kk : Int) ∈ l0 := by
        unfold rd_T113
        rw [List.getD_eq_getElem?_getD, List.getElem?_eq_getElem (by simpa using hlt)]
        exact List.getElem_mem _
      have hcall := HP.out wr (rd_T113 l0 (kk : Int)) A1 c1 hmem BW.out (Kd.C_below hi BW.out) hl
      have hstep : Aside0 (idxP p l0 0 = if p (rd_T113 l0 (kk : Int)) then (kk : Int) else idxP p (l0.drop (kk + 1)) ((kk + 1 : Nat) : Int)) := ⟨by
        rw [HA.out, drop_cons l0 z113 kk hlt]
        have hr : l0.getD kk z113 = rd_T113 l0 (kk : Int) := by simp [rd_T113]
        rw [hr]
        rfl⟩
      clear hmem hi hl
      generalize rd_T113 l0 (kk : Int) = y at *
      cases hq : p y with
      | true =>
        rw [hq] at hcall
        have hs2 : Aside0 (idxP p l0 0 = (kk : Int)) := ⟨by rw [hstep.out, hq]; rfl⟩
        clear hstep hq HA
        go_wp2_with (go_at_fn g; refine hcall.mono ?_; rintro e w' ⟨rfl, hb'⟩)
        go_ret
        exact ⟨by (rw [hs2.out]; try rfl), below_then BW.out BW.out.size hb'⟩
      | false =>
        rw [hq] at hcall
        have hs2 : Aside0 (idxP p l0 0 = idxP p (l0.drop (kk + 1)) ((kk + 1 : Nat) : Int)) := ⟨by rw [hstep.out, hq]; rfl⟩
        clear hstep hq HA
        go_wp2_with (go_at_fn g; refine hcall.mono ?_; rintro e w' ⟨rfl, hb'⟩)
        go_roundg (l0.length - (kk + 1))
        case measure => omega
        case rel => exact ⟨kk + 1, by omega, by omega, by go_num, ⟨below_then BW.out BW.out.size hb'⟩, hs2⟩
    · have hltz : ¬ (kk : Int) < (l0.length : Int) := by omega
      have hk : kk = l0.length := by omega
      have hs2 : Aside0 (idxP p l0 0 = -1) := ⟨by rw [HA.out, hk]; simp [idxP]⟩
      clear hk HA
      go_wp2
      go_ret
      exact ⟨by (rw [hs2.out]; try rfl), BW.out⟩
theorem ContainsFunc_Rule (g : Nat) (lb : Array Value) (eg : ∀ args w, (callFunc g args).run Try.prog w = .ok (.enter g args) w) (p : S113 → Bool) (A0 : Option Addr) (c0 : Nat) (l0 : List S113) (w : World) (hr0 : Kd.C k113 w A0 l0.length l0)
    (hp : AskRule g lb w l0 p) :
    Calls Try.prog 84 #[.slice A0 l0.length c0, .func (.func g) #[] lb] w fun e w' => e = .returned (.bool (l0.any p)) ∧ Below w.heap.size w w' := by
  have hc := IndexFunc_Rule g lb eg p A0 c0 l0 w hr0 hp
  have ha : l0.any p = decide (0 ≤ idxP p l0 0) := by
    rw [Bool.eq_iff_iff, decide_eq_true_iff, idxP_ge p l0 0 (by omega)]
  rw [ha]
  clear ha hr0 hp
  generalize idxP p l0 0 = i at hc ⊢
  go_enter Try.func84, Try.ntmps84
  go_wp2_with (go_at_call 131; refine hc.mono ?_; rintro e w' ⟨rfl, hb⟩)
  go_ret
  exact ⟨rfl, hb⟩
end Go.Proofs.Ytijmhelacmjggaa.P
namespace Go.Proofs.Ytijmhelacmjggaa.P
open Go.RowKit Go.Proofs.YtijmhelacmjggaaW.PrintWords Go.Proofs.YtijmhelacmjggaaW.PrintLast Go.Proofs.YtijmhelacmjggaaW.PrintMore
attribute [local go_sem] max2_int min2_int max_two min_two max_three min_three max_four min_four
set_option linter.unusedVariables false
set_option linter.unusedSimpArgs false
/-! ### impl_Rx_last: function 64 -/
def impl_Rx_last.f (l0_0 : List (S156)) : Option (Int) := (impl_RNode.f l0_0).bind fun t102 => (some (wrap64 (t102 - 1)))
set_option maxHeartbeats 8000000 in
set_option maxRecDepth 100000 in
theorem impl_Rx_last.calls (A0_0 : Option Addr) (c0_0 : Nat) (l0_0 : List (S156)) (r : Int) (w : World) (hr0_0 : Kd.C k156 w A0_0 l0_0.length l0_0) (hc0_0 : l0_0.length ≤ c0_0) (h : impl_Rx_last.f l0_0 = some r) :
  Calls Try.prog 64 #[.agg #[.slice A0_0 l0_0.length c0_0]] w fun e w' => e = .returned (.int .i64 r) ∧ Below w.heap.size w w' := by
 have hu29 := Try.underlying29
 have HR0_0 := Aside0.mk hr0_0
 have HC0_0 := Aside0.mk hc0_0
 clear hr0_0 hc0_0
 have HB := Aside0.mk (Below.refl w.heap.size w)
 have H : ((impl_RNode.f l0_0).bind fun t102 => (some (wrap64 (t102 - 1)))) = some r := h
 clear h
 obtain ⟨t102, A2, H⟩ := ob_ H
 obtain rfl := Option.some.inj H
 go_enter Try.func64, Try.ntmps64
 go_wp2_with (first | ((with_reducible refine gate_dst (N := 1) rfl ?_); refine bx_ 1 #[.slice A0_0 l0_0.length c0_0] 29 ?_; intro gb101 hg w3 hbox hb; have BK101 := Aside0.mk (hbox); have GW101 := ge_ hg HB; have GE101 := GW101; replace HB := sb_ HB hb; clear hb hbox hg; obtain ⟨hcz4_0, hfz4_0⟩ := d1_ BK101) | ((with_reducible refine gate_callee (f := 118) rfl ?_); refine gl_ (some 5) rfl rfl Try.func118 #[.slice A0_0 l0_0.length c0_0] ?_; (with_reducible refine (impl_RNode.calls _ _ l0_0 t102 _ ?side1 ?side2 A2.out).mono ?_); (case side1 => exact Kd.C_below HR0_0.out (be_ HB.out)); (case side2 => exact HC0_0.out); rintro e w' ⟨rfl, ⟨nd, rfl⟩⟩; refine ⟨_, rfl, ?_⟩))
 go_ret
 exact ⟨rt_, be1_ HB.out GE101.out⟩
/-! ### impl_Rx_nullable: function 68 -/
mutual
def impl_Rx_nullable.j0 : Nat → Int → Bool → List (S156) → Int → List (S103) → List Int → Int → Int → Option (Bool)
 | 0, _, _, _, _, _, _, _, _ => none
 | k + 1, x12, x13, x102000, x104000, x104001, x104002, x104003, x104004 => if x13 = true then (some true) else (if x12 = 2 then (some false) else (if x12 = 3 then (if 0 < (x104002.length : Int) then ((impl_Rx_nullable.f k x102000 (rd x104002 0)).bind fun t105 => (if t105 = true then (if 1 < (x104002.length : Int) then ((impl_Rx_nullable.f k x102000 (rd x104002 1)).bind fun t107 => (some t107)) else (none)) else (some false))) else (none)) else (if x12 = 4 then (if 0 < (x104002.length : Int) then ((impl_Rx_nullable.f k x102000 (rd x104002 0)).bind fun t109 => (if t109 = true then (some true) else (if 1 < (x104002.length : Int) then ((impl_Rx_nullable.f k x102000 (rd x104002 1)).bind fun t111 => (some t111)) else (none)))) else (none)) else (if x104000 = 8 then (if x104003 = 0 then (some true) else (if 0 < (x104002.length : Int) then ((impl_Rx_nullable.f k x102000 (rd x104002 0)).bind fun t113 => (some t113)) else (none))) else (if 0 < (x104002.length : Int) then ((impl_Rx_nullable.f k x102000 (rd x104002 0)).bind fun t115 => (some t115)) else (none))))))
def impl_Rx_nullable.f : Nat → List (S156) → Int → Option (Bool)
 | 0, _, _ => none
 | k + 1, l0_0, a1 => if 0 ≤ a1 then (if a1 < (l0_0.length : Int) then (if ((rd_T156 l0_0 a1).f0) = 1 then (impl_Rx_nullable.j0 k ((rd_T156 l0_0 a1).f0) (((rd_T156 l0_0 a1).f0) == 1) l0_0 ((rd_T156 l0_0 a1).f0) ((rd_T156 l0_0 a1).f1) ((rd_T156 l0_0 a1).f2) ((rd_T156 l0_0 a1).f3) ((rd_T156 l0_0 a1).f4)) else (if ((rd_T156 l0_0 a1).f0) = 5 then (impl_Rx_nullable.j0 k ((rd_T156 l0_0 a1).f0) (((rd_T156 l0_0 a1).f0) == 5) l0_0 ((rd_T156 l0_0 a1).f0) ((rd_T156 l0_0 a1).f1) ((rd_T156 l0_0 a1).f2) ((rd_T156 l0_0 a1).f3) ((rd_T156 l0_0 a1).f4)) else (impl_Rx_nullable.j0 k ((rd_T156 l0_0 a1).f0) (((rd_T156 l0_0 a1).f0) == 7) l0_0 ((rd_T156 l0_0 a1).f0) ((rd_T156 l0_0 a1).f1) ((rd_T156 l0_0 a1).f2) ((rd_T156 l0_0 a1).f3) ((rd_T156 l0_0 a1).f4)))) else (none)) else (none)
end
def impl_Rx_nullable.T10 : Bool × List (List Nat × List Nat) := (true, [([], []), ([], []), ([1], [1]), ([2], [2]), ([3], [3]), ([0, 4], [0, 4]), ([5, 5], [5]), ([6], [6]), ([6], [6]), ([8, 6], [6, 8]), ([9, 6], [6, 9]), ([10, 6], [6, 10]), ([7, 11, 6, 6], [6, 7, 11]), ([6, 12], [6, 12]), ([13, 12, 0, 1, 2, 3, 4, 5, 6, 7, 8, 9, 10, 11, 12, 13], [13])])
def impl_Rx_nullable.B10 : List Nat := [0, 0, 2, 6, 14, 31, 63, 127, 127, 383, 895, 1919, 4095, 8191, 16383]
theorem impl_Rx_nullable.tab10 : rtab .any (opsOf Try.f68 10) = impl_Rx_nullable.T10 := by kernel_rfl
theorem impl_Rx_nullable.bits10 : waitsOk impl_Rx_nullable.T10.2 impl_Rx_nullable.B10 = true := by kernel_rfl
def impl_Rx_nullable.T12 : Bool × List (List Nat × List Nat) := (true, [([], []), ([], []), ([1], [1]), ([2], [2]), ([3], [3]), ([0, 4], [0, 4]), ([5, 5], [5]), ([6], [6]), ([6], [6]), ([8, 6], [6, 8]), ([9, 6], [6, 9]), ([10, 6], [6, 10]), ([7, 11, 6, 6], [6, 7, 11]), ([6, 12], [6, 12]), ([13, 12, 0, 1, 2, 3, 4, 5, 6, 7, 8, 9, 10, 11, 12, 13], [13])])
def impl_Rx_nullable.B12 : List Nat := [0, 0, 2, 6, 14, 31, 63, 127, 127, 383, 895, 1919, 4095, 8191, 16383]
theorem impl_Rx_nullable.tab12 : rtab .any (opsOf Try.f68 12) = impl_Rx_nullable.T12 := by kernel_rfl
theorem impl_Rx_nullable.bits12 : waitsOk impl_Rx_nullable.T12.2 impl_Rx_nullable.B12 = true := by kernel_rfl
def impl_Rx_nullable.T13 : Bool × List (List Nat × List Nat) := (true, [([], []), ([0], [0]), ([1], [1]), ([2], [2]), ([3], [3]), ([4, 3], [3, 4]), ([5, 3], [3, 5]), ([3, 6], [3, 6]), ([7, 3], [7]), ([8], [8]), ([8], [8]), ([10, 8], [8, 10]), ([11, 8], [8, 11]), ([12, 8], [8, 12]), ([9, 13, 8, 8], [8, 9, 13]), ([8, 14], [8, 14]), ([15, 14, 0, 1, 2, 3, 4, 5, 6, 7, 8, 9, 10, 11, 12, 13, 14, 15], [15])])
def impl_Rx_nullable.B13 : List Nat := [0, 1, 3, 7, 15, 31, 63, 127, 255, 511, 511, 1535, 3583, 7679, 16383, 32767, 65535]
theorem impl_Rx_nullable.tab13 : rtab .any (opsOf Try.f68 13) = impl_Rx_nullable.T13 := by kernel_rfl
theorem impl_Rx_nullable.bits13 : waitsOk impl_Rx_nullable.T13.2 impl_Rx_nullable.B13 = true := by kernel_rfl
set_option maxHeartbeats 8000000 in
set_option maxRecDepth 100000 in
theorem impl_Rx_nullable.calls (k : Nat) : ∀ (A0_0 : Option Addr) (c0_0 : Nat) (l0_0 : List (S156)) (a1 : Int) (r : Bool) (w : World) (hr0_0 : Kd.C k156 w A0_0 l0_0.length l0_0) (hc0_0 : l0_0.length ≤ c0_0) (h : impl_Rx_nullable.f k l0_0 a1 = some r),
  Calls Try.prog 68 #[.agg #[.slice A0_0 l0_0.length c0_0], .int .i64 a1] w fun e w' => e = .returned (.bool r) ∧ Below w.heap.size w w' := by
 induction k using Nat.strongRecOn with
 | _ k ih =>
 intro A0_0 c0_0 l0_0 a1 r w hr0_0 hc0_0 h
 cases k with
 | zero => exact absurd h (by simp [impl_Rx_nullable.f])
 | succ k =>
 simp only [impl_Rx_nullable.f] at h
 have hu29 := Try.underlying29
 have hu156 := Try.underlying156
 have HR0_0 := Aside0.mk hr0_0
 have HC0_0 := Aside0.mk hc0_0
 clear hr0_0 hc0_0
 have HB := Aside0.mk (Below.refl w.heap.size w)
 have H : (if 0 ≤ a1 then (if a1 < (l0_0.length : Int) then (if ((rd_T156 l0_0 a1).f0) = 1 then (impl_Rx_nullable.j0 k ((rd_T156 l0_0 a1).f0) (((rd_T156 l0_0 a1).f0) == 1) l0_0 ((rd_T156 l0_0 a1).f0) ((rd_T156 l0_0 a1).f1) ((rd_T156 l0_0 a1).f2) ((rd_T156 l0_0 a1).f3) ((rd_T156 l0_0 a1).f4)) else (if ((rd_T156 l0_0 a1).f0) = 5 then (impl_Rx_nullable.j0 k ((rd_T156 l0_0 a1).f0) (((rd_T156 l0_0 a1).f0) == 5) l0_0 ((rd_T156 l0_0 a1).f0) ((rd_T156 l0_0 a1).f1) ((rd_T156 l0_0 a1).f2) ((rd_T156 l0_0 a1).f3) ((rd_T156 l0_0 a1).f4)) else (impl_Rx_nullable.j0 k ((rd_T156 l0_0 a1).f0) (((rd_T156 l0_0 a1).f0) == 7) l0_0 ((rd_T156 l0_0 a1).f0) ((rd_T156 l0_0 a1).f1) ((rd_T156 l0_0 a1).f2) ((rd_T156 l0_0 a1).f3) ((rd_T156 l0_0 a1).f4)))) else (none)) else (none)) = some r := h
 clear h
 by_cases c3 : 0 ≤ a1
 ·rw [if_pos c3] at H
  have c3b0 := decide_eq_true c3
  clear c3
  by_cases c4 : a1 < (l0_0.length : Int)
  ·rw [if_pos c4] at H
   have c4b0 := decide_eq_true c4
   clear c4
   have HC5 := Aside0.mk H
   clear H
   go_enter Try.func68, Try.ntmps68
   go_upto_if 13 with (first | ((with_reducible refine gate_dst (N := 2) rfl ?_); refine bx_ 2 #[.slice A0_0 l0_0.length c0_0] 29 ?_; intro gb101 hg w6 hbox hb; have BK101 := Aside0.mk (hbox); have GW101 := ge_ hg HB; have GE101 := GW101; replace HB := sb_ HB hb; clear hb hbox hg; obtain ⟨hcz7_0, hfz7_0⟩ := d1_ BK101; have p102 : 0 ≤ (a1 : Int) := of_decide_eq_true as_; have q102 : a1 < (l0_0.length : Int) := of_decide_eq_true as_; obtain ⟨ad102, A102_1, c102_1, A102_2, c102_2, e102, hx102_0, hx102_1, hx102_2, hx102_3, hx102_4, hl102_1, hi102_1, hl102_2, hi102_2⟩ := at_T156 HR0_0.out a1 p102 q102; cases e102; replace hx102_0 := mv_ HB.out hx102_0; replace hx102_1 := mv_ HB.out hx102_1; replace hx102_2 := mv_ HB.out hx102_2; replace hx102_3 := mv_ HB.out hx102_3; replace hx102_4 := mv_ HB.out hx102_4; have HR102_1 := Aside0.mk hi102_1; have HC102_1 := Aside0.mk hl102_1; clear hi102_1 hl102_1; have HR102_2 := Aside0.mk hi102_2; have HC102_2 := Aside0.mk hl102_2; clear hi102_2 hl102_2; replace p102 := eq_true p102; replace q102 := eq_true q102) | ((with_reducible refine gate_dst (N := 5) rfl ?_); refine bx_ 5 #[.int .i64 0, .slice none 0 0, .slice none 0 0, .int .i64 0, .int .i64 0] 156 ?_; intro gb103 hg w8 hbox hb; have BK103 := Aside0.mk (hbox); have GW103 := ge1_ hg HB GE101; have GE103 := GW103; have NB101_103 := nl_ hg BK101; have NB103_101 := ng_ hg BK101; replace BK101 := lb_ BK101 hb; replace HB := sb1_ HB GE101 hb; clear hb hbox hg; have hnb9 := NB103_101.out; have hnc9 := NB101_103.out; obtain ⟨hcz10_0, hcz10_1, hcz10_2, hcz10_3, hcz10_4, hfz10_0, hfz10_1, hfz10_2, hfz10_3, hfz10_4⟩ := d5_ BK103))
   (try simp only [Act.put, List.setIfInBounds_toArray, List.set_cons_zero, List.set_cons_succ])
   go_cut [13] (fun v13 wc => ∃ (kq : Nat) (x13_4 : Bool), v13 = .bool x13_4 ∧ Aside0 (impl_Rx_nullable.j0 kq ((rd_T156 l0_0 a1).f0) x13_4 l0_0 ((rd_T156 l0_0 a1).f0) ((rd_T156 l0_0 a1).f1) ((rd_T156 l0_0 a1).f2) ((rd_T156 l0_0 a1).f3) ((rd_T156 l0_0 a1).f4) = some r) ∧ Aside0 (kq ≤ k) ∧ Aside0 (wc.heap[gb101]? = some (.cells #[(.slice (some ad102) l0_0.length c0_0)] 29 (0, 0))) ∧ Aside0 (wc.heap[gb103]? = some (.cells #[.int .i64 ((rd_T156 l0_0 a1).f0), (.slice A102_1 ((rd_T156 l0_0 a1).f1).length c102_1), (.slice A102_2 ((rd_T156 l0_0 a1).f2).length c102_2), .int .i64 ((rd_T156 l0_0 a1).f3), .int .i64 ((rd_T156 l0_0 a1).f4)] 156 (0, 0))) ∧ Aside0 (Below w.heap.size w wc))
   case first =>
    have H := HC5.out
    clear HC5
    by_cases c11 : ((rd_T156 l0_0 a1).f0) = 1
    ·rw [if_pos c11] at H
     have c11b0 : (((rd_T156 l0_0 a1).f0) == 1) = true := beq_iff_eq.mpr c11
     have c11b1 : (((rd_T156 l0_0 a1).f0) != 1) = false := bne_eq_false_iff_eq.mpr c11
     clear c11
     (first | rw [c11b0] | (simp only [i64_w, i32_w]; rw [c11b0]) | skip)
     have H' := Aside0.mk H
     clear H
     go_wp2
     go_meet
     case rel => exact ⟨_, ((((rd_T156 l0_0 a1).f0) == 1)), rs_, H', ⟨by first | omega | exact Nat.le_refl _⟩, ⟨by (with_reducible repeat (first | refine blk_drewN ?_ _ | refine blk_drew ?_ | refine blk_alloc ?_ _)); refine blk_far ?_ NB101_103.out _; (with_reducible repeat (first | refine blk_drewN ?_ _ | refine blk_drew ?_ | refine blk_alloc ?_ _)); refine blk_far ?_ NB101_103.out _; (with_reducible repeat (first | refine blk_drewN ?_ _ | refine blk_drew ?_ | refine blk_alloc ?_ _)); refine blk_far ?_ NB101_103.out _; (with_reducible repeat (first | refine blk_drewN ?_ _ | refine blk_drew ?_ | refine blk_alloc ?_ _)); refine blk_far ?_ NB101_103.out _; (with_reducible repeat (first | refine blk_drewN ?_ _ | refine blk_drew ?_ | refine blk_alloc ?_ _)); refine blk_far ?_ NB101_103.out _; (with_reducible repeat (first | refine blk_drewN ?_ _ | refine blk_drew ?_ | refine blk_alloc ?_ _)); exact BK101.out⟩, ⟨by (with_reducible repeat (first | refine blk_drewN ?_ _ | refine blk_drew ?_ | refine blk_alloc ?_ _)); refine blk_put (cs := #[.int .i64 ((rd_T156 l0_0 a1).f0), .slice A102_1 ((rd_T156 l0_0 a1).f1).length c102_1, .slice A102_2 ((rd_T156 l0_0 a1).f2).length c102_2, .int .i64 ((rd_T156 l0_0 a1).f3), .int .i64 0]) ?_ 4 _ rfl; (with_reducible repeat (first | refine blk_drewN ?_ _ | refine blk_drew ?_ | refine blk_alloc ?_ _)); refine blk_put (cs := #[.int .i64 ((rd_T156 l0_0 a1).f0), .slice A102_1 ((rd_T156 l0_0 a1).f1).length c102_1, .slice A102_2 ((rd_T156 l0_0 a1).f2).length c102_2, .int .i64 0, .int .i64 0]) ?_ 3 _ rfl; (with_reducible repeat (first | refine blk_drewN ?_ _ | refine blk_drew ?_ | refine blk_alloc ?_ _)); refine blk_put (cs := #[.int .i64 ((rd_T156 l0_0 a1).f0), .slice A102_1 ((rd_T156 l0_0 a1).f1).length c102_1, .slice none 0 0, .int .i64 0, .int .i64 0]) ?_ 2 _ rfl; (with_reducible repeat (first | refine blk_drewN ?_ _ | refine blk_drew ?_ | refine blk_alloc ?_ _)); refine blk_put (cs := #[.int .i64 ((rd_T156 l0_0 a1).f0), .slice none 0 0, .slice none 0 0, .int .i64 0, .int .i64 0]) ?_ 1 _ rfl; (with_reducible repeat (first | refine blk_drewN ?_ _ | refine blk_drew ?_ | refine blk_alloc ?_ _)); refine blk_put (cs := #[.int .i64 0, .slice none 0 0, .slice none 0 0, .int .i64 0, .int .i64 0]) ?_ 0 _ rfl; (with_reducible repeat (first | refine blk_drewN ?_ _ | refine blk_drew ?_ | refine blk_alloc ?_ _)); exact BK103.out⟩, ⟨be2_ HB.out GE101.out GE103.out⟩⟩
    ·rw [if_neg c11] at H
     have c11b0 : (((rd_T156 l0_0 a1).f0) == 1) = false := beq_eq_false_iff_ne.mpr c11
     have c11b1 : (((rd_T156 l0_0 a1).f0) != 1) = true := bne_iff_ne.mpr c11
     (first | rw [c11b0] | (simp only [i64_w, i32_w]; rw [c11b0]) | skip)
     by_cases c12 : ((rd_T156 l0_0 a1).f0) = 5
     ·rw [if_pos c12] at H
      have c12b0 : (((rd_T156 l0_0 a1).f0) == 5) = true := beq_iff_eq.mpr c12
      have c12b1 : (((rd_T156 l0_0 a1).f0) != 5) = false := bne_eq_false_iff_eq.mpr c12
      clear c12
      have H' := Aside0.mk H
      clear H
      go_wp2
      go_meet
      case rel => exact ⟨_, ((((rd_T156 l0_0 a1).f0) == 5)), rs_, H', ⟨by first | omega | exact Nat.le_refl _⟩, ⟨by (with_reducible repeat (first | refine blk_drewN ?_ _ | refine blk_drew ?_ | refine blk_alloc ?_ _)); refine blk_far ?_ NB101_103.out _; (with_reducible repeat (first | refine blk_drewN ?_ _ | refine blk_drew ?_ | refine blk_alloc ?_ _)); refine blk_far ?_ NB101_103.out _; (with_reducible repeat (first | refine blk_drewN ?_ _ | refine blk_drew ?_ | refine blk_alloc ?_ _)); refine blk_far ?_ NB101_103.out _; (with_reducible repeat (first | refine blk_drewN ?_ _ | refine blk_drew ?_ | refine blk_alloc ?_ _)); refine blk_far ?_ NB101_103.out _; (with_reducible repeat (first | refine blk_drewN ?_ _ | refine blk_drew ?_ | refine blk_alloc ?_ _)); refine blk_far ?_ NB101_103.out _; (with_reducible repeat (first | refine blk_drewN ?_ _ | refine blk_drew ?_ | refine blk_alloc ?_ _)); exact BK101.out⟩, ⟨by (with_reducible repeat (first | refine blk_drewN ?_ _ | refine blk_drew ?_ | refine blk_alloc ?_ _)); refine blk_put (cs := #[.int .i64 ((rd_T156 l0_0 a1).f0), .slice A102_1 ((rd_T156 l0_0 a1).f1).length c102_1, .slice A102_2 ((rd_T156 l0_0 a1).f2).length c102_2, .int .i64 ((rd_T156 l0_0 a1).f3), .int .i64 0]) ?_ 4 _ rfl; (with_reducible repeat (first | refine blk_drewN ?_ _ | refine blk_drew ?_ | refine blk_alloc ?_ _)); refine blk_put (cs := #[.int .i64 ((rd_T156 l0_0 a1).f0), .slice A102_1 ((rd_T156 l0_0 a1).f1).length c102_1, .slice A102_2 ((rd_T156 l0_0 a1).f2).length c102_2, .int .i64 0, .int .i64 0]) ?_ 3 _ rfl; (with_reducible repeat (first | refine blk_drewN ?_ _ | refine blk_drew ?_ | refine blk_alloc ?_ _)); refine blk_put (cs := #[.int .i64 ((rd_T156 l0_0 a1).f0), .slice A102_1 ((rd_T156 l0_0 a1).f1).length c102_1, .slice none 0 0, .int .i64 0, .int .i64 0]) ?_ 2 _ rfl; (with_reducible repeat (first | refine blk_drewN ?_ _ | refine blk_drew ?_ | refine blk_alloc ?_ _)); refine blk_put (cs := #[.int .i64 ((rd_T156 l0_0 a1).f0), .slice none 0 0, .slice none 0 0, .int .i64 0, .int .i64 0]) ?_ 1 _ rfl; (with_reducible repeat (first | refine blk_drewN ?_ _ | refine blk_drew ?_ | refine blk_alloc ?_ _)); refine blk_put (cs := #[.int .i64 0, .slice none 0 0, .slice none 0 0, .int .i64 0, .int .i64 0]) ?_ 0 _ rfl; (with_reducible repeat (first | refine blk_drewN ?_ _ | refine blk_drew ?_ | refine blk_alloc ?_ _)); exact BK103.out⟩, ⟨be2_ HB.out GE101.out GE103.out⟩⟩
     ·rw [if_neg c12] at H
      have c12b0 : (((rd_T156 l0_0 a1).f0) == 5) = false := beq_eq_false_iff_ne.mpr c12
      have c12b1 : (((rd_T156 l0_0 a1).f0) != 5) = true := bne_iff_ne.mpr c12
      have H' := Aside0.mk H
      clear H
      go_wp2
      go_meet
      case rel => exact ⟨_, ((((rd_T156 l0_0 a1).f0) == 7)), rs_, H', ⟨by first | omega | exact Nat.le_refl _⟩, ⟨by (with_reducible repeat (first | refine blk_drewN ?_ _ | refine blk_drew ?_ | refine blk_alloc ?_ _)); refine blk_far ?_ NB101_103.out _; (with_reducible repeat (first | refine blk_drewN ?_ _ | refine blk_drew ?_ | refine blk_alloc ?_ _)); refine blk_far ?_ NB101_103.out _; (with_reducible repeat (first | refine blk_drewN ?_ _ | refine blk_drew ?_ | refine blk_alloc ?_ _)); refine blk_far ?_ NB101_103.out _; (with_reducible repeat (first | refine blk_drewN ?_ _ | refine blk_drew ?_ | refine blk_alloc ?_ _)); refine blk_far ?_ NB101_103.out _; (with_reducible repeat (first | refine blk_drewN ?_ _ | refine blk_drew ?_ | refine blk_alloc ?_ _)); refine blk_far ?_ NB101_103.out _; (with_reducible repeat (first | refine blk_drewN ?_ _ | refine blk_drew ?_ | refine blk_alloc ?_ _)); exact BK101.out⟩, ⟨by (with_reducible repeat (first | refine blk_drewN ?_ _ | refine blk_drew ?_ | refine blk_alloc ?_ _)); refine blk_put (cs := #[.int .i64 ((rd_T156 l0_0 a1).f0), .slice A102_1 ((rd_T156 l0_0 a1).f1).length c102_1, .slice A102_2 ((rd_T156 l0_0 a1).f2).length c102_2, .int .i64 ((rd_T156 l0_0 a1).f3), .int .i64 0]) ?_ 4 _ rfl; (with_reducible repeat (first | refine blk_drewN ?_ _ | refine blk_drew ?_ | refine blk_alloc ?_ _)); refine blk_put (cs := #[.int .i64 ((rd_T156 l0_0 a1).f0), .slice A102_1 ((rd_T156 l0_0 a1).f1).length c102_1, .slice A102_2 ((rd_T156 l0_0 a1).f2).length c102_2, .int .i64 0, .int .i64 0]) ?_ 3 _ rfl; (with_reducible repeat (first | refine blk_drewN ?_ _ | refine blk_drew ?_ | refine blk_alloc ?_ _)); refine blk_put (cs := #[.int .i64 ((rd_T156 l0_0 a1).f0), .slice A102_1 ((rd_T156 l0_0 a1).f1).length c102_1, .slice none 0 0, .int .i64 0, .int .i64 0]) ?_ 2 _ rfl; (with_reducible repeat (first | refine blk_drewN ?_ _ | refine blk_drew ?_ | refine blk_alloc ?_ _)); refine blk_put (cs := #[.int .i64 ((rd_T156 l0_0 a1).f0), .slice none 0 0, .slice none 0 0, .int .i64 0, .int .i64 0]) ?_ 1 _ rfl; (with_reducible repeat (first | refine blk_drewN ?_ _ | refine blk_drew ?_ | refine blk_alloc ?_ _)); refine blk_put (cs := #[.int .i64 0, .slice none 0 0, .slice none 0 0, .int .i64 0, .int .i64 0]) ?_ 0 _ rfl; (with_reducible repeat (first | refine blk_drewN ?_ _ | refine blk_drew ?_ | refine blk_alloc ?_ _)); exact BK103.out⟩, ⟨be2_ HB.out GE101.out GE103.out⟩⟩
   case rest =>
    clear HC5
    try clear c3
    try clear c3b0
    try clear c4
    try clear c4b0
    try clear c11
    try clear c11b0
    try clear c11b1
    try clear c12
    try clear c12b0
    try clear c12b1
    try clear hcz10_0
    try clear hcz10_1
    try clear hcz10_2
    try clear hcz10_3
    try clear hcz10_4
    try clear hcz7_0
    try clear hfz10_0
    try clear hfz10_1
    try clear hfz10_2
    try clear hfz10_3
    try clear hfz10_4
    try clear hfz7_0
    try clear hx102_0
    try clear hx102_1
    try clear hx102_2
    try clear hx102_3
    try clear hx102_4
    try clear p102
    try clear q102
    obtain ⟨kq, x13_4, rfl, HA, HJ4, BK101, BK103, HB⟩ := hcut
    cases kq with
    | zero => exact absurd HA.out (by simp [impl_Rx_nullable.j0])
    | succ kj4 =>
     have H := HA.out
     clear HA
     simp only [impl_Rx_nullable.j0] at H
     by_cases c13 : x13_4 = true
     ·subst c13
      rw [if_pos rfl] at H
      obtain rfl := Option.some.inj H
      go_wp2
      go_ret
      exact ⟨rt_, be2_ HB.out GE101.out GE103.out⟩
     ·replace c13 := Bool.eq_false_iff.mpr c13
      subst c13
      rw [if_neg nft_] at H
      by_cases c14 : ((rd_T156 l0_0 a1).f0) = 2
      ·rw [if_pos c14] at H
       have c14b0 : (((rd_T156 l0_0 a1).f0) == 2) = true := beq_iff_eq.mpr c14
       have c14b1 : (((rd_T156 l0_0 a1).f0) != 2) = false := bne_eq_false_iff_eq.mpr c14
       clear c14
       obtain rfl := Option.some.inj H
       go_wp2
       go_ret
       exact ⟨rt_, be2_ HB.out GE101.out GE103.out⟩
      ·rw [if_neg c14] at H
       have c14b0 : (((rd_T156 l0_0 a1).f0) == 2) = false := beq_eq_false_iff_ne.mpr c14
       have c14b1 : (((rd_T156 l0_0 a1).f0) != 2) = true := bne_iff_ne.mpr c14
       by_cases c15 : ((rd_T156 l0_0 a1).f0) = 3
       ·rw [if_pos c15] at H
        have c15b0 : (((rd_T156 l0_0 a1).f0) == 3) = true := beq_iff_eq.mpr c15
        have c15b1 : (((rd_T156 l0_0 a1).f0) != 3) = false := bne_eq_false_iff_eq.mpr c15
        clear c15
        by_cases c16 : 0 < (((rd_T156 l0_0 a1).f2).length : Int)
        ·rw [if_pos c16] at H
         have c16b0 := decide_eq_true c16
         have c16b1 : decide (0 < ((rd_T156 l0_0 a1).f2).length) = true := decide_eq_true (by omega)
         clear c16
         obtain ⟨t105, A17, H⟩ := ob_ H
         by_cases c18 : t105 = true
         ·subst c18
          rw [if_pos rfl] at H
          by_cases c19 : 1 < (((rd_T156 l0_0 a1).f2).length : Int)
          ·rw [if_pos c19] at H
           have c19b0 := decide_eq_true c19
           have c19b1 : decide (1 < ((rd_T156 l0_0 a1).f2).length) = true := decide_eq_true (by omega)
           clear c19
           obtain ⟨t107, A20, H⟩ := ob_ H
           obtain rfl := Option.some.inj H
           try go_wp2
           replace BK101 := Aside0.mk (blk_drew BK101.out)
           replace BK103 := Aside0.mk (blk_drew BK103.out)
           replace HB := Aside0.mk (below_drew1 HB.out)
           have p104 : 0 ≤ (0 : Int) := (by omega)
           have q104 : 0 < (((rd_T156 l0_0 a1).f2).length : Int) := of_decide_eq_true as_
           obtain ⟨ad104, e104, hx104_0⟩ := Kd.at_int HR102_2.out 0 p104 q104
           have hw104_0 := hx104_0
           (try rw [show ((0 : Int)).toNat = 0 from rfl] at hw104_0)
           (try rw [show 0 * 1 = 0 from rfl] at hw104_0)
           (try rw [Addr.add_zero'] at hw104_0)
           cases e104
           have qi104 : (0 < ((rd_T156 l0_0 a1).f2).length) = True := eq_true (by omega)
           (try rw [show ((0 : Int)).toNat = 0 from rfl] at hx104_0)
           (try rw [Addr.add_zero'] at hx104_0)
           replace hx104_0 := mv_ HB.out hx104_0
           replace p104 := eq_true p104
           replace q104 := eq_true q104
           have p106 : 0 ≤ (1 : Int) := (by omega)
           have q106 : 1 < (((rd_T156 l0_0 a1).f2).length : Int) := of_decide_eq_true as_
           obtain ⟨ad106, e106, hx106_0⟩ := Kd.at_int HR102_2.out 1 p106 q106
           have hw106_0 := hx106_0
           (try rw [show ((1 : Int)).toNat = 1 from rfl] at hw106_0)
           (try rw [show 1 * 1 = 1 from rfl] at hw106_0)
           (try simp only [Nat.reduceMul, Nat.reduceEqDiff, Go.Addr.add, ↓reduceIte] at hw106_0)
           obtain rfl : ad104 = ad106 := (by injection e106)
           (try simp only [show (1 : Int).toNat = 1 from rfl, Nat.reduceMul, Nat.reduceEqDiff, Go.Addr.add, ↓reduceIte] at hx106_0)
           have qi106 : (1 < ((rd_T156 l0_0 a1).f2).length) = True := eq_true (by omega)
           (try rw [show ((1 : Int)).toNat = 1 from rfl] at hx106_0)
           replace hx106_0 := mv_ HB.out hx106_0
           replace p106 := eq_true p106
           replace q106 := eq_true q106
           refine start_ (n := 15) (S := fun w' => w'.cell? ⟨gb101, 0, none⟩ = some (.slice (some ad102) l0_0.length c0_0) ∧ w'.cell? ⟨gb103, 0, none⟩ = some (.int .i64 ((rd_T156 l0_0 a1).f0)) ∧ w'.cell? ⟨gb103, 1, none⟩ = some (.slice A102_1 ((rd_T156 l0_0 a1).f1).length c102_1) ∧ w'.cell? ⟨gb103, 2, none⟩ = some (.slice (some ad104) ((rd_T156 l0_0 a1).f2).length c102_2) ∧ w'.cell? ⟨gb103, 3, none⟩ = some (.int .i64 ((rd_T156 l0_0 a1).f3)) ∧ w'.cell? ⟨gb103, 4, none⟩ = some (.int .i64 ((rd_T156 l0_0 a1).f4)) ∧ w'.cell? ad104 = some (.int .i64 (rd ((rd_T156 l0_0 a1).f2) 0)) ∧ w'.cell? ⟨ad104.block, ad104.off + 1, none⟩ = some (.int .i64 (rd ((rd_T156 l0_0 a1).f2) 1))) (ds := []) #[false, false, false, false, false, false, false, false, false, false, false, false, false, false, false] (by kernel_rfl) rfl rfl ⟨(blk_cell BK101.out 0).trans rfl, (blk_cell BK103.out 0).trans rfl, (blk_cell BK103.out 1).trans rfl, (blk_cell BK103.out 2).trans rfl, (blk_cell BK103.out 3).trans rfl, (blk_cell BK103.out 4).trans rfl, (mv_ HB.out hw104_0), (mv_ HB.out hw106_0)⟩ (fun hHeld => ?_); refine with_tabW impl_Rx_nullable.tab10 impl_Rx_nullable.bits10 (fun HT_ HW_ => ?_)
           generalize wc.drew = w21 at BK101 BK103 HB hx104_0 hx106_0 hHeld ⊢
           refine pu_ 1 (some 22) (bb 15 2) HT_.out ?_
           refine ta_ 0 (some 21) (bb 15 3) HT_.out HW_.out hHeld ?_
           refine ta_ 2 (some 23) (bb 15 7) HT_.out HW_.out hHeld ?_
           refine pu_ 3 (some 24) (bb 15 15) HT_.out ?_
           refine ta_ 4 (some 25) (bb 15 31) HT_.out HW_.out hHeld ?_
           refine one_ (i := 5) (N := some 26) (bb 15 63) rfl rfl (one_of HT_.out (by kernel_rfl)) (by decide) (fun K hK => ?_)
           refine gs_ Try.func68 #[.agg #[.slice (some ad102) l0_0.length c0_0], .int .i64 (rd ((rd_T156 l0_0 a1).f2) 0)] ?_
           with_reducible refine (ih kj4 (by have := HJ4.out; omega) _ _ l0_0 (rd ((rd_T156 l0_0 a1).f2) 0) true _ ?side1 ?side2 A17.out).mono ?_
           (case side1 => exact Kd.C_below HR0_0.out (be_ HB.out))
           (case side2 => exact HC0_0.out)
           rintro e w22 ⟨rfl, hb⟩
           refine ⟨_, rfl, ?_⟩
           replace BK101 := lb_ BK101 hb
           replace BK103 := lb_ BK103 hb
           replace HB := sb2_ HB GE101 GE103 hb
           (try clear hb)
           (try clear hb2)
           (try clear hk)
           (try clear hi)
           refine hK.out _ _ ⟨(blk_cell BK101.out 0).trans rfl, (blk_cell BK103.out 0).trans rfl, (blk_cell BK103.out 1).trans rfl, (blk_cell BK103.out 2).trans rfl, (blk_cell BK103.out 3).trans rfl, (blk_cell BK103.out 4).trans rfl, (mv_ HB.out hw104_0), (mv_ HB.out hw106_0)⟩ (fun hHeld => ?_)
           clear hK K
           refine no_ (some 26) ?_
           refine pu_ 6 (some 27) (bb 15 127) HT_.out ?_
           refine pu_ 8 (some 29) (bb 15 383) HT_.out ?_
           refine ta_ 7 (some 28) (bb 15 511) HT_.out HW_.out hHeld ?_
           refine ta_ 9 (some 30) (bb 15 1023) HT_.out HW_.out hHeld ?_
           refine pu_ 10 (some 31) (bb 15 2047) HT_.out ?_
           refine ta_ 11 (some 32) (bb 15 4095) HT_.out HW_.out hHeld ?_
           refine one_ (i := 12) (N := some 33) (bb 15 8191) rfl rfl (one_of HT_.out (by kernel_rfl)) (by decide) (fun K hK => ?_)
           refine gs_ Try.func68 #[.agg #[.slice (some ad102) l0_0.length c0_0], .int .i64 (rd ((rd_T156 l0_0 a1).f2) 1)] ?_
           with_reducible refine (ih kj4 (by have := HJ4.out; omega) _ _ l0_0 (rd ((rd_T156 l0_0 a1).f2) 1) t107 _ ?side1 ?side2 A20.out).mono ?_
           (case side1 => exact Kd.C_below HR0_0.out (be_ HB.out))
           (case side2 => exact HC0_0.out)
           rintro e w23 ⟨rfl, hb⟩
           refine ⟨_, rfl, ?_⟩
           replace BK101 := lb_ BK101 hb
           replace BK103 := lb_ BK103 hb
           replace HB := sb2_ HB GE101 GE103 hb
           (try clear hb)
           (try clear hb2)
           (try clear hk)
           (try clear hi)
           refine hK.out _ _ ⟨(blk_cell BK101.out 0).trans rfl, (blk_cell BK103.out 0).trans rfl, (blk_cell BK103.out 1).trans rfl, (blk_cell BK103.out 2).trans rfl, (blk_cell BK103.out 3).trans rfl, (blk_cell BK103.out 4).trans rfl, (mv_ HB.out hw104_0), (mv_ HB.out hw106_0)⟩ (fun hHeld => ?_)
           clear hK K
           refine no_ (some 33) ?_
           refine pu_ 13 (some 34) (bb 15 16383) HT_.out ?_
           refine pu_ 14 (some 4) (bb 15 32767) HT_.out ?_
           refine done_ (done_of HT_.out (by kernel_rfl)) ?_
           try go_wp2
           go_ret
           exact ⟨rt_, be2_ HB.out GE101.out GE103.out⟩
          ·rw [if_neg c19] at H
           exact absurd H (by simp)
         ·replace c18 := Bool.eq_false_iff.mpr c18
          subst c18
          rw [if_neg nft_] at H
          obtain rfl := Option.some.inj H
          try go_wp2
          replace BK101 := Aside0.mk (blk_drew BK101.out)
          replace BK103 := Aside0.mk (blk_drew BK103.out)
          replace HB := Aside0.mk (below_drew1 HB.out)
          have p104 : 0 ≤ (0 : Int) := (by omega)
          have q104 : 0 < (((rd_T156 l0_0 a1).f2).length : Int) := of_decide_eq_true as_
          obtain ⟨ad104, e104, hx104_0⟩ := Kd.at_int HR102_2.out 0 p104 q104
          have hw104_0 := hx104_0
          (try rw [show ((0 : Int)).toNat = 0 from rfl] at hw104_0)
          (try rw [show 0 * 1 = 0 from rfl] at hw104_0)
          (try rw [Addr.add_zero'] at hw104_0)
          cases e104
          have qi104 : (0 < ((rd_T156 l0_0 a1).f2).length) = True := eq_true (by omega)
          (try rw [show ((0 : Int)).toNat = 0 from rfl] at hx104_0)
          (try rw [Addr.add_zero'] at hx104_0)
          replace hx104_0 := mv_ HB.out hx104_0
          replace p104 := eq_true p104
          replace q104 := eq_true q104
          refine start_ (n := 15) (S := fun w' => w'.cell? ⟨gb101, 0, none⟩ = some (.slice (some ad102) l0_0.length c0_0) ∧ w'.cell? ⟨gb103, 0, none⟩ = some (.int .i64 ((rd_T156 l0_0 a1).f0)) ∧ w'.cell? ⟨gb103, 1, none⟩ = some (.slice A102_1 ((rd_T156 l0_0 a1).f1).length c102_1) ∧ w'.cell? ⟨gb103, 2, none⟩ = some (.slice (some ad104) ((rd_T156 l0_0 a1).f2).length c102_2) ∧ w'.cell? ⟨gb103, 3, none⟩ = some (.int .i64 ((rd_T156 l0_0 a1).f3)) ∧ w'.cell? ⟨gb103, 4, none⟩ = some (.int .i64 ((rd_T156 l0_0 a1).f4)) ∧ w'.cell? ad104 = some (.int .i64 (rd ((rd_T156 l0_0 a1).f2) 0))) (ds := []) #[false, false, false, false, false, false, false, false, false, false, false, false, false, false, false] (by kernel_rfl) rfl rfl ⟨(blk_cell BK101.out 0).trans rfl, (blk_cell BK103.out 0).trans rfl, (blk_cell BK103.out 1).trans rfl, (blk_cell BK103.out 2).trans rfl, (blk_cell BK103.out 3).trans rfl, (blk_cell BK103.out 4).trans rfl, (mv_ HB.out hw104_0)⟩ (fun hHeld => ?_); refine with_tabW impl_Rx_nullable.tab10 impl_Rx_nullable.bits10 (fun HT_ HW_ => ?_)
          generalize wc.drew = w24 at BK101 BK103 HB hx104_0 hHeld ⊢
          refine pu_ 1 (some 22) (bb 15 2) HT_.out ?_
          refine ta_ 0 (some 21) (bb 15 3) HT_.out HW_.out hHeld ?_
          refine ta_ 2 (some 23) (bb 15 7) HT_.out HW_.out hHeld ?_
          refine pu_ 3 (some 24) (bb 15 15) HT_.out ?_
          refine ta_ 4 (some 25) (bb 15 31) HT_.out HW_.out hHeld ?_
          refine one_ (i := 5) (N := some 26) (bb 15 63) rfl rfl (one_of HT_.out (by kernel_rfl)) (by decide) (fun K hK => ?_)
          refine gs_ Try.func68 #[.agg #[.slice (some ad102) l0_0.length c0_0], .int .i64 (rd ((rd_T156 l0_0 a1).f2) 0)] ?_
          with_reducible refine (ih kj4 (by have := HJ4.out; omega) _ _ l0_0 (rd ((rd_T156 l0_0 a1).f2) 0) false _ ?side1 ?side2 A17.out).mono ?_
          (case side1 => exact Kd.C_below HR0_0.out (be_ HB.out))
          (case side2 => exact HC0_0.out)
          rintro e w25 ⟨rfl, hb⟩
          refine ⟨_, rfl, ?_⟩
          replace BK101 := lb_ BK101 hb
          replace BK103 := lb_ BK103 hb
          replace HB := sb2_ HB GE101 GE103 hb
          (try clear hb)
          (try clear hb2)
          (try clear hk)
          (try clear hi)
          refine hK.out _ _ ⟨(blk_cell BK101.out 0).trans rfl, (blk_cell BK103.out 0).trans rfl, (blk_cell BK103.out 1).trans rfl, (blk_cell BK103.out 2).trans rfl, (blk_cell BK103.out 3).trans rfl, (blk_cell BK103.out 4).trans rfl, (mv_ HB.out hw104_0)⟩ (fun hHeld => ?_)
          clear hK K
          refine no_ (some 26) ?_
          refine pu_ 6 (some 27) (bb 15 127) HT_.out ?_
          refine pw_ 7 (some 28) (bb 15 255) HT_.out ?_
          refine pw_ 8 (some 29) (bb 15 511) HT_.out ?_
          refine pw_ 9 (some 30) (bb 15 1023) HT_.out ?_
          refine pw_ 10 (some 31) (bb 15 2047) HT_.out ?_
          refine pw_ 11 (some 32) (bb 15 4095) HT_.out ?_
          refine pw_ 12 (some 33) (bb 15 8191) HT_.out ?_
          refine pu_ 13 (some 34) (bb 15 16383) HT_.out ?_
          refine pu_ 14 (some 4) (bb 15 32767) HT_.out ?_
          refine done_ (done_of HT_.out (by kernel_rfl)) ?_
          try go_wp2
          go_ret
          exact ⟨rt_, be2_ HB.out GE101.out GE103.out⟩
        ·rw [if_neg c16] at H
         exact absurd H (by simp)
       ·rw [if_neg c15] at H
        have c15b0 : (((rd_T156 l0_0 a1).f0) == 3) = false := beq_eq_false_iff_ne.mpr c15
        have c15b1 : (((rd_T156 l0_0 a1).f0) != 3) = true := bne_iff_ne.mpr c15
        by_cases c26 : ((rd_T156 l0_0 a1).f0) = 4
        ·rw [if_pos c26] at H
         have c26b0 : (((rd_T156 l0_0 a1).f0) == 4) = true := beq_iff_eq.mpr c26
         have c26b1 : (((rd_T156 l0_0 a1).f0) != 4) = false := bne_eq_false_iff_eq.mpr c26
         clear c26
         by_cases c27 : 0 < (((rd_T156 l0_0 a1).f2).length : Int)
         ·rw [if_pos c27] at H
          have c27b0 := decide_eq_true c27
          have c27b1 : decide (0 < ((rd_T156 l0_0 a1).f2).length) = true := decide_eq_true (by omega)
          clear c27
          obtain ⟨t109, A28, H⟩ := ob_ H
          by_cases c29 : t109 = true
          ·subst c29
           rw [if_pos rfl] at H
           obtain rfl := Option.some.inj H
           try go_wp2
           replace BK101 := Aside0.mk (blk_drew BK101.out)
           replace BK103 := Aside0.mk (blk_drew BK103.out)
           replace HB := Aside0.mk (below_drew1 HB.out)
           have p108 : 0 ≤ (0 : Int) := (by omega)
           have q108 : 0 < (((rd_T156 l0_0 a1).f2).length : Int) := of_decide_eq_true as_
           obtain ⟨ad108, e108, hx108_0⟩ := Kd.at_int HR102_2.out 0 p108 q108
           have hw108_0 := hx108_0
           (try rw [show ((0 : Int)).toNat = 0 from rfl] at hw108_0)
           (try rw [show 0 * 1 = 0 from rfl] at hw108_0)
           (try rw [Addr.add_zero'] at hw108_0)
           cases e108
           have qi108 : (0 < ((rd_T156 l0_0 a1).f2).length) = True := eq_true (by omega)
           (try rw [show ((0 : Int)).toNat = 0 from rfl] at hx108_0)
           (try rw [Addr.add_zero'] at hx108_0)
           replace hx108_0 := mv_ HB.out hx108_0
           replace p108 := eq_true p108
           replace q108 := eq_true q108
           refine start_ (n := 15) (S := fun w' => w'.cell? ⟨gb101, 0, none⟩ = some (.slice (some ad102) l0_0.length c0_0) ∧ w'.cell? ⟨gb103, 0, none⟩ = some (.int .i64 ((rd_T156 l0_0 a1).f0)) ∧ w'.cell? ⟨gb103, 1, none⟩ = some (.slice A102_1 ((rd_T156 l0_0 a1).f1).length c102_1) ∧ w'.cell? ⟨gb103, 2, none⟩ = some (.slice (some ad108) ((rd_T156 l0_0 a1).f2).length c102_2) ∧ w'.cell? ⟨gb103, 3, none⟩ = some (.int .i64 ((rd_T156 l0_0 a1).f3)) ∧ w'.cell? ⟨gb103, 4, none⟩ = some (.int .i64 ((rd_T156 l0_0 a1).f4)) ∧ w'.cell? ad108 = some (.int .i64 (rd ((rd_T156 l0_0 a1).f2) 0))) (ds := []) #[false, false, false, false, false, false, false, false, false, false, false, false, false, false, false] (by kernel_rfl) rfl rfl ⟨(blk_cell BK101.out 0).trans rfl, (blk_cell BK103.out 0).trans rfl, (blk_cell BK103.out 1).trans rfl, (blk_cell BK103.out 2).trans rfl, (blk_cell BK103.out 3).trans rfl, (blk_cell BK103.out 4).trans rfl, (mv_ HB.out hw108_0)⟩ (fun hHeld => ?_); refine with_tabW impl_Rx_nullable.tab12 impl_Rx_nullable.bits12 (fun HT_ HW_ => ?_)
           generalize wc.drew = w30 at BK101 BK103 HB hx108_0 hHeld ⊢
           refine pu_ 1 (some 38) (bb 15 2) HT_.out ?_
           refine ta_ 0 (some 37) (bb 15 3) HT_.out HW_.out hHeld ?_
           refine ta_ 2 (some 39) (bb 15 7) HT_.out HW_.out hHeld ?_
           refine pu_ 3 (some 40) (bb 15 15) HT_.out ?_
           refine ta_ 4 (some 41) (bb 15 31) HT_.out HW_.out hHeld ?_
           refine one_ (i := 5) (N := some 42) (bb 15 63) rfl rfl (one_of HT_.out (by kernel_rfl)) (by decide) (fun K hK => ?_)
           refine gs_ Try.func68 #[.agg #[.slice (some ad102) l0_0.length c0_0], .int .i64 (rd ((rd_T156 l0_0 a1).f2) 0)] ?_
           with_reducible refine (ih kj4 (by have := HJ4.out; omega) _ _ l0_0 (rd ((rd_T156 l0_0 a1).f2) 0) true _ ?side1 ?side2 A28.out).mono ?_
           (case side1 => exact Kd.C_below HR0_0.out (be_ HB.out))
           (case side2 => exact HC0_0.out)
           rintro e w31 ⟨rfl, hb⟩
           refine ⟨_, rfl, ?_⟩
           replace BK101 := lb_ BK101 hb
           replace BK103 := lb_ BK103 hb
           replace HB := sb2_ HB GE101 GE103 hb
           (try clear hb)
           (try clear hb2)
           (try clear hk)
           (try clear hi)
           refine hK.out _ _ ⟨(blk_cell BK101.out 0).trans rfl, (blk_cell BK103.out 0).trans rfl, (blk_cell BK103.out 1).trans rfl, (blk_cell BK103.out 2).trans rfl, (blk_cell BK103.out 3).trans rfl, (blk_cell BK103.out 4).trans rfl, (mv_ HB.out hw108_0)⟩ (fun hHeld => ?_)
           clear hK K
           refine no_ (some 42) ?_
           refine pu_ 6 (some 43) (bb 15 127) HT_.out ?_
           refine pw_ 7 (some 44) (bb 15 255) HT_.out ?_
           refine pw_ 8 (some 45) (bb 15 511) HT_.out ?_
           refine pw_ 9 (some 46) (bb 15 1023) HT_.out ?_
           refine pw_ 10 (some 47) (bb 15 2047) HT_.out ?_
           refine pw_ 11 (some 48) (bb 15 4095) HT_.out ?_
           refine pw_ 12 (some 49) (bb 15 8191) HT_.out ?_
           refine pu_ 13 (some 50) (bb 15 16383) HT_.out ?_
           refine pu_ 14 (some 4) (bb 15 32767) HT_.out ?_
           refine done_ (done_of HT_.out (by kernel_rfl)) ?_
           try go_wp2
           go_ret
           exact ⟨rt_, be2_ HB.out GE101.out GE103.out⟩
          ·replace c29 := Bool.eq_false_iff.mpr c29
           subst c29
           rw [if_neg nft_] at H
           by_cases c32 : 1 < (((rd_T156 l0_0 a1).f2).length : Int)
           ·rw [if_pos c32] at H
            have c32b0 := decide_eq_true c32
            have c32b1 : decide (1 < ((rd_T156 l0_0 a1).f2).length) = true := decide_eq_true (by omega)
            clear c32
            obtain ⟨t111, A33, H⟩ := ob_ H
            obtain rfl := Option.some.inj H
            try go_wp2
            replace BK101 := Aside0.mk (blk_drew BK101.out)
            replace BK103 := Aside0.mk (blk_drew BK103.out)
            replace HB := Aside0.mk (below_drew1 HB.out)
            have p108 : 0 ≤ (0 : Int) := (by omega)
            have q108 : 0 < (((rd_T156 l0_0 a1).f2).length : Int) := of_decide_eq_true as_
            obtain ⟨ad108, e108, hx108_0⟩ := Kd.at_int HR102_2.out 0 p108 q108
            have hw108_0 := hx108_0
            (try rw [show ((0 : Int)).toNat = 0 from rfl] at hw108_0)
            (try rw [show 0 * 1 = 0 from rfl] at hw108_0)
            (try rw [Addr.add_zero'] at hw108_0)
            cases e108
            have qi108 : (0 < ((rd_T156 l0_0 a1).f2).length) = True := eq_true (by omega)
            (try rw [show ((0 : Int)).toNat = 0 from rfl] at hx108_0)
            (try rw [Addr.add_zero'] at hx108_0)
            replace hx108_0 := mv_ HB.out hx108_0
            replace p108 := eq_true p108
            replace q108 := eq_true q108
            have p110 : 0 ≤ (1 : Int) := (by omega)
            have q110 : 1 < (((rd_T156 l0_0 a1).f2).length : Int) := of_decide_eq_true as_
            obtain ⟨ad110, e110, hx110_0⟩ := Kd.at_int HR102_2.out 1 p110 q110
            have hw110_0 := hx110_0
            (try rw [show ((1 : Int)).toNat = 1 from rfl] at hw110_0)
            (try rw [show 1 * 1 = 1 from rfl] at hw110_0)
            (try simp only [Nat.reduceMul, Nat.reduceEqDiff, Go.Addr.add, ↓reduceIte] at hw110_0)
            obtain rfl : ad108 = ad110 := (by injection e110)
            (try simp only [show (1 : Int).toNat = 1 from rfl, Nat.reduceMul, Nat.reduceEqDiff, Go.Addr.add, ↓reduceIte] at hx110_0)
            have qi110 : (1 < ((rd_T156 l0_0 a1).f2).length) = True := eq_true (by omega)
            (try rw [show ((1 : Int)).toNat = 1 from rfl] at hx110_0)
            replace hx110_0 := mv_ HB.out hx110_0
            replace p110 := eq_true p110
            replace q110 := eq_true q110
            refine start_ (n := 15) (S := fun w' => w'.cell? ⟨gb101, 0, none⟩ = some (.slice (some ad102) l0_0.length c0_0) ∧ w'.cell? ⟨gb103, 0, none⟩ = some (.int .i64 ((rd_T156 l0_0 a1).f0)) ∧ w'.cell? ⟨gb103, 1, none⟩ = some (.slice A102_1 ((rd_T156 l0_0 a1).f1).length c102_1) ∧ w'.cell? ⟨gb103, 2, none⟩ = some (.slice (some ad108) ((rd_T156 l0_0 a1).f2).length c102_2) ∧ w'.cell? ⟨gb103, 3, none⟩ = some (.int .i64 ((rd_T156 l0_0 a1).f3)) ∧ w'.cell? ⟨gb103, 4, none⟩ = some (.int .i64 ((rd_T156 l0_0 a1).f4)) ∧ w'.cell? ad108 = some (.int .i64 (rd ((rd_T156 l0_0 a1).f2) 0)) ∧ w'.cell? ⟨ad108.block, ad108.off + 1, none⟩ = some (.int .i64 (rd ((rd_T156 l0_0 a1).f2) 1))) (ds := []) #[false, false, false, false, false, false, false, false, false, false, false, false, false, false, false] (by kernel_rfl) rfl rfl ⟨(blk_cell BK101.out 0).trans rfl, (blk_cell BK103.out 0).trans rfl, (blk_cell BK103.out 1).trans rfl, (blk_cell BK103.out 2).trans rfl, (blk_cell BK103.out 3).trans rfl, (blk_cell BK103.out 4).trans rfl, (mv_ HB.out hw108_0), (mv_ HB.out hw110_0)⟩ (fun hHeld => ?_); refine with_tabW impl_Rx_nullable.tab12 impl_Rx_nullable.bits12 (fun HT_ HW_ => ?_)
            generalize wc.drew = w34 at BK101 BK103 HB hx108_0 hx110_0 hHeld ⊢
            refine pu_ 1 (some 38) (bb 15 2) HT_.out ?_
            refine ta_ 0 (some 37) (bb 15 3) HT_.out HW_.out hHeld ?_
            refine ta_ 2 (some 39) (bb 15 7) HT_.out HW_.out hHeld ?_
            refine pu_ 3 (some 40) (bb 15 15) HT_.out ?_
            refine ta_ 4 (some 41) (bb 15 31) HT_.out HW_.out hHeld ?_
            refine one_ (i := 5) (N := some 42) (bb 15 63) rfl rfl (one_of HT_.out (by kernel_rfl)) (by decide) (fun K hK => ?_)
            refine gs_ Try.func68 #[.agg #[.slice (some ad102) l0_0.length c0_0], .int .i64 (rd ((rd_T156 l0_0 a1).f2) 0)] ?_
            with_reducible refine (ih kj4 (by have := HJ4.out; omega) _ _ l0_0 (rd ((rd_T156 l0_0 a1).f2) 0) false _ ?side1 ?side2 A28.out).mono ?_
            (case side1 => exact Kd.C_below HR0_0.out (be_ HB.out))
            (case side2 => exact HC0_0.out)
            rintro e w35 ⟨rfl, hb⟩
            refine ⟨_, rfl, ?_⟩
            replace BK101 := lb_ BK101 hb
            replace BK103 := lb_ BK103 hb
            replace HB := sb2_ HB GE101 GE103 hb
            (try clear hb)
            (try clear hb2)
            (try clear hk)
            (try clear hi)
            refine hK.out _ _ ⟨(blk_cell BK101.out 0).trans rfl, (blk_cell BK103.out 0).trans rfl, (blk_cell BK103.out 1).trans rfl, (blk_cell BK103.out 2).trans rfl, (blk_cell BK103.out 3).trans rfl, (blk_cell BK103.out 4).trans rfl, (mv_ HB.out hw108_0), (mv_ HB.out hw110_0)⟩ (fun hHeld => ?_)
            clear hK K
            refine no_ (some 42) ?_
            refine pu_ 6 (some 43) (bb 15 127) HT_.out ?_
            refine pu_ 8 (some 45) (bb 15 383) HT_.out ?_
            refine ta_ 7 (some 44) (bb 15 511) HT_.out HW_.out hHeld ?_
            refine ta_ 9 (some 46) (bb 15 1023) HT_.out HW_.out hHeld ?_
            refine pu_ 10 (some 47) (bb 15 2047) HT_.out ?_
            refine ta_ 11 (some 48) (bb 15 4095) HT_.out HW_.out hHeld ?_
            refine one_ (i := 12) (N := some 49) (bb 15 8191) rfl rfl (one_of HT_.out (by kernel_rfl)) (by decide) (fun K hK => ?_)
            refine gs_ Try.func68 #[.agg #[.slice (some ad102) l0_0.length c0_0], .int .i64 (rd ((rd_T156 l0_0 a1).f2) 1)] ?_
            with_reducible refine (ih kj4 (by have := HJ4.out; omega) _ _ l0_0 (rd ((rd_T156 l0_0 a1).f2) 1) t111 _ ?side1 ?side2 A33.out).mono ?_
            (case side1 => exact Kd.C_below HR0_0.out (be_ HB.out))
            (case side2 => exact HC0_0.out)
            rintro e w36 ⟨rfl, hb⟩
            refine ⟨_, rfl, ?_⟩
            replace BK101 := lb_ BK101 hb
            replace BK103 := lb_ BK103 hb
            replace HB := sb2_ HB GE101 GE103 hb
            (try clear hb)
            (try clear hb2)
            (try clear hk)
            (try clear hi)
            refine hK.out _ _ ⟨(blk_cell BK101.out 0).trans rfl, (blk_cell BK103.out 0).trans rfl, (blk_cell BK103.out 1).trans rfl, (blk_cell BK103.out 2).trans rfl, (blk_cell BK103.out 3).trans rfl, (blk_cell BK103.out 4).trans rfl, (mv_ HB.out hw108_0), (mv_ HB.out hw110_0)⟩ (fun hHeld => ?_)
            clear hK K
            refine no_ (some 49) ?_
            refine pu_ 13 (some 50) (bb 15 16383) HT_.out ?_
            refine pu_ 14 (some 4) (bb 15 32767) HT_.out ?_
            refine done_ (done_of HT_.out (by kernel_rfl)) ?_
            try go_wp2
            go_ret
            exact ⟨rt_, be2_ HB.out GE101.out GE103.out⟩
           ·rw [if_neg c32] at H
            exact absurd H (by simp)
         ·rw [if_neg c27] at H
          exact absurd H (by simp)
        ·rw [if_neg c26] at H
         have c26b0 : (((rd_T156 l0_0 a1).f0) == 4) = false := beq_eq_false_iff_ne.mpr c26
         have c26b1 : (((rd_T156 l0_0 a1).f0) != 4) = true := bne_iff_ne.mpr c26
         by_cases c37 : ((rd_T156 l0_0 a1).f0) = 8
         ·rw [if_pos c37] at H
          have c37b0 : (((rd_T156 l0_0 a1).f0) == 8) = true := beq_iff_eq.mpr c37
          have c37b1 : (((rd_T156 l0_0 a1).f0) != 8) = false := bne_eq_false_iff_eq.mpr c37
          clear c37
          by_cases c38 : ((rd_T156 l0_0 a1).f3) = 0
          ·rw [if_pos c38] at H
           have c38b0 : (((rd_T156 l0_0 a1).f3) == 0) = true := beq_iff_eq.mpr c38
           have c38b1 : (((rd_T156 l0_0 a1).f3) != 0) = false := bne_eq_false_iff_eq.mpr c38
           clear c38
           obtain rfl := Option.some.inj H
           try go_wp2
           replace BK101 := Aside0.mk (blk_drew BK101.out)
           replace BK103 := Aside0.mk (blk_drew BK103.out)
           replace HB := Aside0.mk (below_drew1 HB.out)
           refine start_ (n := 17) (S := fun w' => w'.cell? ⟨gb103, 0, none⟩ = some (.int .i64 ((rd_T156 l0_0 a1).f0)) ∧ w'.cell? ⟨gb103, 1, none⟩ = some (.slice A102_1 ((rd_T156 l0_0 a1).f1).length c102_1) ∧ w'.cell? ⟨gb103, 2, none⟩ = some (.slice A102_2 ((rd_T156 l0_0 a1).f2).length c102_2) ∧ w'.cell? ⟨gb103, 3, none⟩ = some (.int .i64 ((rd_T156 l0_0 a1).f3)) ∧ w'.cell? ⟨gb103, 4, none⟩ = some (.int .i64 ((rd_T156 l0_0 a1).f4))) (ds := []) #[false, false, false, false, false, false, false, false, false, false, false, false, false, false, false, false, false] (by kernel_rfl) rfl rfl ⟨(blk_cell BK103.out 0).trans rfl, (blk_cell BK103.out 1).trans rfl, (blk_cell BK103.out 2).trans rfl, (blk_cell BK103.out 3).trans rfl, (blk_cell BK103.out 4).trans rfl⟩ (fun hHeld => ?_); refine with_tabW impl_Rx_nullable.tab13 impl_Rx_nullable.bits13 (fun HT_ HW_ => ?_)
           generalize wc.drew = w39 at BK101 BK103 HB hHeld ⊢
           refine pu_ 0 (some 51) (bb 17 1) HT_.out ?_
           refine ta_ 1 (some 52) (bb 17 3) HT_.out HW_.out hHeld ?_
           refine pu_ 2 (some 53) (bb 17 7) HT_.out ?_
           refine pu_ 3 (some 54) (bb 17 15) HT_.out ?_
           refine pu_ 4 (some 55) (bb 17 31) HT_.out ?_
           refine ta_ 5 (some 56) (bb 17 63) HT_.out HW_.out hHeld ?_
           refine pu_ 6 (some 57) (bb 17 127) HT_.out ?_
           refine pu_ 7 (some 58) (bb 17 255) HT_.out ?_
           refine pu_ 8 (some 59) (bb 17 511) HT_.out ?_
           refine pw_ 9 (some 60) (bb 17 1023) HT_.out ?_
           refine pw_ 10 (some 61) (bb 17 2047) HT_.out ?_
           refine pw_ 11 (some 62) (bb 17 4095) HT_.out ?_
           refine pw_ 12 (some 63) (bb 17 8191) HT_.out ?_
           refine pw_ 13 (some 64) (bb 17 16383) HT_.out ?_
           refine pw_ 14 (some 65) (bb 17 32767) HT_.out ?_
           refine pu_ 15 (some 66) (bb 17 65535) HT_.out ?_
           refine pu_ 16 (some 4) (bb 17 131071) HT_.out ?_
           refine done_ (done_of HT_.out (by kernel_rfl)) ?_
           try go_wp2
           go_ret
           exact ⟨rt_, be2_ HB.out GE101.out GE103.out⟩
          ·rw [if_neg c38] at H
           have c38b0 : (((rd_T156 l0_0 a1).f3) == 0) = false := beq_eq_false_iff_ne.mpr c38
           have c38b1 : (((rd_T156 l0_0 a1).f3) != 0) = true := bne_iff_ne.mpr c38
           by_cases c40 : 0 < (((rd_T156 l0_0 a1).f2).length : Int)
           ·rw [if_pos c40] at H
            have c40b0 := decide_eq_true c40
            have c40b1 : decide (0 < ((rd_T156 l0_0 a1).f2).length) = true := decide_eq_true (by omega)
            clear c40
            obtain ⟨t113, A41, H⟩ := ob_ H
            obtain rfl := Option.some.inj H
            try go_wp2
            replace BK101 := Aside0.mk (blk_drew BK101.out)
            replace BK103 := Aside0.mk (blk_drew BK103.out)
            replace HB := Aside0.mk (below_drew1 HB.out)
            have p112 : 0 ≤ (0 : Int) := (by omega)
            have q112 : 0 < (((rd_T156 l0_0 a1).f2).length : Int) := of_decide_eq_true as_
            obtain ⟨ad112, e112, hx112_0⟩ := Kd.at_int HR102_2.out 0 p112 q112
            have hw112_0 := hx112_0
            (try rw [show ((0 : Int)).toNat = 0 from rfl] at hw112_0)
            (try rw [show 0 * 1 = 0 from rfl] at hw112_0)
            (try rw [Addr.add_zero'] at hw112_0)
            cases e112
            have qi112 : (0 < ((rd_T156 l0_0 a1).f2).length) = True := eq_true (by omega)
            (try rw [show ((0 : Int)).toNat = 0 from rfl] at hx112_0)
            (try rw [Addr.add_zero'] at hx112_0)
            replace hx112_0 := mv_ HB.out hx112_0
            replace p112 := eq_true p112
            replace q112 := eq_true q112
            refine start_ (n := 17) (S := fun w' => w'.cell? ⟨gb103, 0, none⟩ = some (.int .i64 ((rd_T156 l0_0 a1).f0)) ∧ w'.cell? ⟨gb103, 1, none⟩ = some (.slice A102_1 ((rd_T156 l0_0 a1).f1).length c102_1) ∧ w'.cell? ⟨gb103, 2, none⟩ = some (.slice (some ad112) ((rd_T156 l0_0 a1).f2).length c102_2) ∧ w'.cell? ⟨gb103, 3, none⟩ = some (.int .i64 ((rd_T156 l0_0 a1).f3)) ∧ w'.cell? ⟨gb103, 4, none⟩ = some (.int .i64 ((rd_T156 l0_0 a1).f4)) ∧ w'.cell? ⟨gb101, 0, none⟩ = some (.slice (some ad102) l0_0.length c0_0) ∧ w'.cell? ad112 = some (.int .i64 (rd ((rd_T156 l0_0 a1).f2) 0))) (ds := []) #[false, false, false, false, false, false, false, false, false, false, false, false, false, false, false, false, false] (by kernel_rfl) rfl rfl ⟨(blk_cell BK103.out 0).trans rfl, (blk_cell BK103.out 1).trans rfl, (blk_cell BK103.out 2).trans rfl, (blk_cell BK103.out 3).trans rfl, (blk_cell BK103.out 4).trans rfl, (blk_cell BK101.out 0).trans rfl, (mv_ HB.out hw112_0)⟩ (fun hHeld => ?_); refine with_tabW impl_Rx_nullable.tab13 impl_Rx_nullable.bits13 (fun HT_ HW_ => ?_)
            generalize wc.drew = w42 at BK101 BK103 HB hx112_0 hHeld ⊢
            refine pu_ 0 (some 51) (bb 17 1) HT_.out ?_
            refine ta_ 1 (some 52) (bb 17 3) HT_.out HW_.out hHeld ?_
            refine pu_ 2 (some 53) (bb 17 7) HT_.out ?_
            refine pu_ 3 (some 54) (bb 17 15) HT_.out ?_
            refine pu_ 4 (some 55) (bb 17 31) HT_.out ?_
            refine ta_ 5 (some 56) (bb 17 63) HT_.out HW_.out hHeld ?_
            refine pu_ 6 (some 57) (bb 17 127) HT_.out ?_
            refine pu_ 7 (some 58) (bb 17 255) HT_.out ?_
            refine pu_ 8 (some 59) (bb 17 511) HT_.out ?_
            refine pu_ 10 (some 61) (bb 17 1535) HT_.out ?_
            refine ta_ 9 (some 60) (bb 17 2047) HT_.out HW_.out hHeld ?_
            refine ta_ 11 (some 62) (bb 17 4095) HT_.out HW_.out hHeld ?_
            refine pu_ 12 (some 63) (bb 17 8191) HT_.out ?_
            refine ta_ 13 (some 64) (bb 17 16383) HT_.out HW_.out hHeld ?_
            refine one_ (i := 14) (N := some 65) (bb 17 32767) rfl rfl (one_of HT_.out (by kernel_rfl)) (by decide) (fun K hK => ?_)
            refine gs_ Try.func68 #[.agg #[.slice (some ad102) l0_0.length c0_0], .int .i64 (rd ((rd_T156 l0_0 a1).f2) 0)] ?_
            with_reducible refine (ih kj4 (by have := HJ4.out; omega) _ _ l0_0 (rd ((rd_T156 l0_0 a1).f2) 0) t113 _ ?side1 ?side2 A41.out).mono ?_
            (case side1 => exact Kd.C_below HR0_0.out (be_ HB.out))
            (case side2 => exact HC0_0.out)
            rintro e w43 ⟨rfl, hb⟩
            refine ⟨_, rfl, ?_⟩
            replace BK101 := lb_ BK101 hb
            replace BK103 := lb_ BK103 hb
            replace HB := sb2_ HB GE101 GE103 hb
            (try clear hb)
            (try clear hb2)
            (try clear hk)
            (try clear hi)
            refine hK.out _ _ ⟨(blk_cell BK103.out 0).trans rfl, (blk_cell BK103.out 1).trans rfl, (blk_cell BK103.out 2).trans rfl, (blk_cell BK103.out 3).trans rfl, (blk_cell BK103.out 4).trans rfl, (blk_cell BK101.out 0).trans rfl, (mv_ HB.out hw112_0)⟩ (fun hHeld => ?_)
            clear hK K
            refine no_ (some 65) ?_
            refine pu_ 15 (some 66) (bb 17 65535) HT_.out ?_
            refine pu_ 16 (some 4) (bb 17 131071) HT_.out ?_
            refine done_ (done_of HT_.out (by kernel_rfl)) ?_
            try go_wp2
            go_ret
            exact ⟨rt_, be2_ HB.out GE101.out GE103.out⟩
           ·rw [if_neg c40] at H
            exact absurd H (by simp)
         ·rw [if_neg c37] at H
          have c37b0 : (((rd_T156 l0_0 a1).f0) == 8) = false := beq_eq_false_iff_ne.mpr c37
          have c37b1 : (((rd_T156 l0_0 a1).f0) != 8) = true := bne_iff_ne.mpr c37
          by_cases c44 : 0 < (((rd_T156 l0_0 a1).f2).length : Int)
          ·rw [if_pos c44] at H
           have c44b0 := decide_eq_true c44
           have c44b1 : decide (0 < ((rd_T156 l0_0 a1).f2).length) = true := decide_eq_true (by omega)
           clear c44
           obtain ⟨t115, A45, H⟩ := ob_ H
           obtain rfl := Option.some.inj H
           try go_wp2
           replace BK101 := Aside0.mk (blk_drew BK101.out)
           replace BK103 := Aside0.mk (blk_drew BK103.out)
           replace HB := Aside0.mk (below_drew1 HB.out)
           have p114 : 0 ≤ (0 : Int) := (by omega)
           have q114 : 0 < (((rd_T156 l0_0 a1).f2).length : Int) := of_decide_eq_true as_
           obtain ⟨ad114, e114, hx114_0⟩ := Kd.at_int HR102_2.out 0 p114 q114
           have hw114_0 := hx114_0
           (try rw [show ((0 : Int)).toNat = 0 from rfl] at hw114_0)
           (try rw [show 0 * 1 = 0 from rfl] at hw114_0)
           (try rw [Addr.add_zero'] at hw114_0)
           cases e114
           have qi114 : (0 < ((rd_T156 l0_0 a1).f2).length) = True := eq_true (by omega)
           (try rw [show ((0 : Int)).toNat = 0 from rfl] at hx114_0)
           (try rw [Addr.add_zero'] at hx114_0)
           replace hx114_0 := mv_ HB.out hx114_0
           replace p114 := eq_true p114
           replace q114 := eq_true q114
           refine start_ (n := 17) (S := fun w' => w'.cell? ⟨gb103, 0, none⟩ = some (.int .i64 ((rd_T156 l0_0 a1).f0)) ∧ w'.cell? ⟨gb103, 1, none⟩ = some (.slice A102_1 ((rd_T156 l0_0 a1).f1).length c102_1) ∧ w'.cell? ⟨gb103, 2, none⟩ = some (.slice (some ad114) ((rd_T156 l0_0 a1).f2).length c102_2) ∧ w'.cell? ⟨gb103, 3, none⟩ = some (.int .i64 ((rd_T156 l0_0 a1).f3)) ∧ w'.cell? ⟨gb103, 4, none⟩ = some (.int .i64 ((rd_T156 l0_0 a1).f4)) ∧ w'.cell? ⟨gb101, 0, none⟩ = some (.slice (some ad102) l0_0.length c0_0) ∧ w'.cell? ad114 = some (.int .i64 (rd ((rd_T156 l0_0 a1).f2) 0))) (ds := []) #[false, false, false, false, false, false, false, false, false, false, false, false, false, false, false, false, false] (by kernel_rfl) rfl rfl ⟨(blk_cell BK103.out 0).trans rfl, (blk_cell BK103.out 1).trans rfl, (blk_cell BK103.out 2).trans rfl, (blk_cell BK103.out 3).trans rfl, (blk_cell BK103.out 4).trans rfl, (blk_cell BK101.out 0).trans rfl, (mv_ HB.out hw114_0)⟩ (fun hHeld => ?_); refine with_tabW impl_Rx_nullable.tab13 impl_Rx_nullable.bits13 (fun HT_ HW_ => ?_)
           generalize wc.drew = w46 at BK101 BK103 HB hx114_0 hHeld ⊢
           refine pu_ 0 (some 51) (bb 17 1) HT_.out ?_
           refine ta_ 1 (some 52) (bb 17 3) HT_.out HW_.out hHeld ?_
           refine pu_ 2 (some 53) (bb 17 7) HT_.out ?_
           refine pu_ 3 (some 54) (bb 17 15) HT_.out ?_
           refine pw_ 4 (some 55) (bb 17 31) HT_.out ?_
           refine pw_ 5 (some 56) (bb 17 63) HT_.out ?_
           refine pw_ 6 (some 57) (bb 17 127) HT_.out ?_
           refine pu_ 7 (some 58) (bb 17 255) HT_.out ?_
           refine pu_ 8 (some 59) (bb 17 511) HT_.out ?_
           refine pu_ 10 (some 61) (bb 17 1535) HT_.out ?_
           refine ta_ 9 (some 60) (bb 17 2047) HT_.out HW_.out hHeld ?_
           refine ta_ 11 (some 62) (bb 17 4095) HT_.out HW_.out hHeld ?_
           refine pu_ 12 (some 63) (bb 17 8191) HT_.out ?_
           refine ta_ 13 (some 64) (bb 17 16383) HT_.out HW_.out hHeld ?_
           refine one_ (i := 14) (N := some 65) (bb 17 32767) rfl rfl (one_of HT_.out (by kernel_rfl)) (by decide) (fun K hK => ?_)
           refine gs_ Try.func68 #[.agg #[.slice (some ad102) l0_0.length c0_0], .int .i64 (rd ((rd_T156 l0_0 a1).f2) 0)] ?_
           with_reducible refine (ih kj4 (by have := HJ4.out; omega) _ _ l0_0 (rd ((rd_T156 l0_0 a1).f2) 0) t115 _ ?side1 ?side2 A45.out).mono ?_
           (case side1 => exact Kd.C_below HR0_0.out (be_ HB.out))
           (case side2 => exact HC0_0.out)
           rintro e w47 ⟨rfl, hb⟩
           refine ⟨_, rfl, ?_⟩
           replace BK101 := lb_ BK101 hb
           replace BK103 := lb_ BK103 hb
           replace HB := sb2_ HB GE101 GE103 hb
           (try clear hb)
           (try clear hb2)
           (try clear hk)
           (try clear hi)
           refine hK.out _ _ ⟨(blk_cell BK103.out 0).trans rfl, (blk_cell BK103.out 1).trans rfl, (blk_cell BK103.out 2).trans rfl, (blk_cell BK103.out 3).trans rfl, (blk_cell BK103.out 4).trans rfl, (blk_cell BK101.out 0).trans rfl, (mv_ HB.out hw114_0)⟩ (fun hHeld => ?_)
           clear hK K
           refine no_ (some 65) ?_
           refine pu_ 15 (some 66) (bb 17 65535) HT_.out ?_
           refine pu_ 16 (some 4) (bb 17 131071) HT_.out ?_
           refine done_ (done_of HT_.out (by kernel_rfl)) ?_
           try go_wp2
           go_ret
           exact ⟨rt_, be2_ HB.out GE101.out GE103.out⟩
          ·rw [if_neg c44] at H
           exact absurd H (by simp)
  ·rw [if_neg c4] at H
   exact absurd H (by simp)
 ·rw [if_neg c3] at H
  exact absurd H (by simp)
/-! ### impl_Nullable: function 18 -/
def impl_Nullable.f (k : Nat) (l0_0 : List (S156)) : Option (Bool) := (impl_RxOk.f k l0_0).bind fun t102 => (if t102 = true then ((impl_Rx_last.f l0_0).bind fun t103 => ((impl_Rx_nullable.f k l0_0 t103).bind fun t104 => (some t104))) else (some false))
def impl_Nullable.T1 : Bool × List (List Nat × List Nat) := (true, [([], []), ([0], [0]), ([1, 1], [1]), ([2], [2]), ([2], [2]), ([4, 2, 2], [2, 4]), ([3, 5, 5, 2], [2, 3, 5]), ([2, 6], [2, 6]), ([7, 6, 0, 1, 2, 3, 4, 5, 6, 7], [7])])
def impl_Nullable.B1 : List Nat := [0, 1, 3, 7, 7, 23, 63, 127, 255]
theorem impl_Nullable.tab1 : rtab .any (opsOf Try.f18 1) = impl_Nullable.T1 := by kernel_rfl
theorem impl_Nullable.bits1 : waitsOk impl_Nullable.T1.2 impl_Nullable.B1 = true := by kernel_rfl
set_option maxHeartbeats 8000000 in
set_option maxRecDepth 100000 in
theorem impl_Nullable.calls (k : Nat) (A0_0 : Option Addr) (c0_0 : Nat) (l0_0 : List (S156)) (r : Bool) (w : World) (hr0_0 : Kd.C k156 w A0_0 l0_0.length l0_0) (hc0_0 : l0_0.length ≤ c0_0) (h : impl_Nullable.f k l0_0 = some r) :
  Calls Try.prog 18 #[.agg #[.slice A0_0 l0_0.length c0_0]] w fun e w' => e = .returned (.bool r) ∧ Below w.heap.size w w' := by
 have hu29 := Try.underlying29
 have HR0_0 := Aside0.mk hr0_0
 have HC0_0 := Aside0.mk hc0_0
 clear hr0_0 hc0_0
 have HB := Aside0.mk (Below.refl w.heap.size w)
 have H : ((impl_RxOk.f k l0_0).bind fun t102 => (if t102 = true then ((impl_Rx_last.f l0_0).bind fun t103 => ((impl_Rx_nullable.f k l0_0 t103).bind fun t104 => (some t104))) else (some false))) = some r := h
 clear h
 obtain ⟨t102, A2, H⟩ := ob_ H
 by_cases c3 : t102 = true
 ·subst c3
  rw [if_pos rfl] at H
  obtain ⟨t103, A4, H⟩ := ob_ H
  obtain ⟨t104, A5, H⟩ := ob_ H
  obtain rfl := Option.some.inj H
  go_enter Try.func18, Try.ntmps18
  try go_wp2_with (((with_reducible refine gate_dst (N := 1) rfl ?_); refine bx_ 1 #[.slice A0_0 l0_0.length c0_0] 29 ?_; intro gb101 hg w6 hbox hb; have BK101 := Aside0.mk (hbox); have GW101 := ge_ hg HB; have GE101 := GW101; replace HB := sb_ HB hb; clear hb hbox hg))
  replace BK101 := Aside0.mk (blk_drew BK101.out)
  replace HB := Aside0.mk (below_drew1 HB.out)
  refine start_ (n := 9) (S := fun w' => w'.cell? ⟨gb101, 0, none⟩ = some (.slice A0_0 l0_0.length c0_0)) (ds := []) #[false, false, false, false, false, false, false, false, false] (by kernel_rfl) rfl rfl ((blk_cell BK101.out 0).trans rfl) (fun hHeld => ?_); refine with_tabW impl_Nullable.tab1 impl_Nullable.bits1 (fun HT_ HW_ => ?_)
  generalize w6.drew = w7 at BK101 HB hHeld ⊢
  refine ta_ 0 (some 3) (bb 9 1) HT_.out HW_.out hHeld ?_
  refine one_ (i := 1) (N := some 4) (bb 9 3) rfl rfl (one_of HT_.out (by kernel_rfl)) (by decide) (fun K hK => ?_)
  refine gs_ Try.func62 #[.agg #[.slice A0_0 l0_0.length c0_0]] ?_
  with_reducible refine (impl_RxOk.calls k _ _ l0_0 true _ ?side1 ?side2 A2.out).mono ?_
  (case side1 => exact Kd.C_below HR0_0.out (be_ HB.out))
  (case side2 => exact HC0_0.out)
  rintro e w8 ⟨rfl, hb⟩
  refine ⟨_, rfl, ?_⟩
  replace BK101 := lb_ BK101 hb
  replace HB := sb1_ HB GE101 hb
  (try clear hb)
  (try clear hb2)
  (try clear hk)
  (try clear hi)
  refine hK.out _ _ ((blk_cell BK101.out 0).trans rfl) (fun hHeld => ?_)
  clear hK K
  refine no_ (some 4) ?_
  refine pu_ 2 (some 5) (bb 9 7) HT_.out ?_
  refine ta_ 3 (some 6) (bb 9 15) HT_.out HW_.out hHeld ?_
  refine ta_ 4 (some 7) (bb 9 31) HT_.out HW_.out hHeld ?_
  refine one_ (i := 5) (N := some 8) (bb 9 63) rfl rfl (one_of HT_.out (by kernel_rfl)) (by decide) (fun K hK => ?_)
  refine gs_ Try.func64 #[.agg #[.slice A0_0 l0_0.length c0_0]] ?_
  with_reducible refine (impl_Rx_last.calls _ _ l0_0 t103 _ ?side1 ?side2 A4.out).mono ?_
  (case side1 => exact Kd.C_below HR0_0.out (be_ HB.out))
  (case side2 => exact HC0_0.out)
  rintro e w9 ⟨rfl, hb⟩
  refine ⟨_, rfl, ?_⟩
  replace BK101 := lb_ BK101 hb
  replace HB := sb1_ HB GE101 hb
  (try clear hb)
  (try clear hb2)
  (try clear hk)
  (try clear hi)
  refine hK.out _ _ ((blk_cell BK101.out 0).trans rfl) (fun hHeld => ?_)
  clear hK K
  refine no_ (some 8) ?_
  refine one_ (i := 6) (N := some 9) (bb 9 127) rfl rfl (one_of HT_.out (by kernel_rfl)) (by decide) (fun K hK => ?_)
  refine gs_ Try.func68 #[.agg #[.slice A0_0 l0_0.length c0_0], .int .i64 t103] ?_
  with_reducible refine (impl_Rx_nullable.calls k _ _ l0_0 t103 t104 _ ?side1 ?side2 A5.out).mono ?_
  (case side1 => exact Kd.C_below HR0_0.out (be_ HB.out))
  (case side2 => exact HC0_0.out)
  rintro e w10 ⟨rfl, hb⟩
  refine ⟨_, rfl, ?_⟩
  replace BK101 := lb_ BK101 hb
  replace HB := sb1_ HB GE101 hb
  (try clear hb)
  (try clear hb2)
  (try clear hk)
  (try clear hi)
  refine hK.out _ _ ((blk_cell BK101.out 0).trans rfl) (fun hHeld => ?_)
  clear hK K
  refine no_ (some 9) ?_
  refine pu_ 7 (some 10) (bb 9 255) HT_.out ?_
  refine pu_ 8 (some 2) (bb 9 511) HT_.out ?_
  refine done_ (done_of HT_.out (by kernel_rfl)) ?_
  try go_wp2
  go_ret
  exact ⟨rt_, be1_ HB.out GE101.out⟩
 ·replace c3 := Bool.eq_false_iff.mpr c3
  subst c3
  rw [if_neg nft_] at H
  obtain rfl := Option.some.inj H
  go_enter Try.func18, Try.ntmps18
  try go_wp2_with (((with_reducible refine gate_dst (N := 1) rfl ?_); refine bx_ 1 #[.slice A0_0 l0_0.length c0_0] 29 ?_; intro gb101 hg w11 hbox hb; have BK101 := Aside0.mk (hbox); have GW101 := ge_ hg HB; have GE101 := GW101; replace HB := sb_ HB hb; clear hb hbox hg))
  replace BK101 := Aside0.mk (blk_drew BK101.out)
  replace HB := Aside0.mk (below_drew1 HB.out)
  refine start_ (n := 9) (S := fun w' => w'.cell? ⟨gb101, 0, none⟩ = some (.slice A0_0 l0_0.length c0_0)) (ds := []) #[false, false, false, false, false, false, false, false, false] (by kernel_rfl) rfl rfl ((blk_cell BK101.out 0).trans rfl) (fun hHeld => ?_); refine with_tabW impl_Nullable.tab1 impl_Nullable.bits1 (fun HT_ HW_ => ?_)
  generalize w11.drew = w12 at BK101 HB hHeld ⊢
  refine ta_ 0 (some 3) (bb 9 1) HT_.out HW_.out hHeld ?_
  refine one_ (i := 1) (N := some 4) (bb 9 3) rfl rfl (one_of HT_.out (by kernel_rfl)) (by decide) (fun K hK => ?_)
  refine gs_ Try.func62 #[.agg #[.slice A0_0 l0_0.length c0_0]] ?_
  with_reducible refine (impl_RxOk.calls k _ _ l0_0 false _ ?side1 ?side2 A2.out).mono ?_
  (case side1 => exact Kd.C_below HR0_0.out (be_ HB.out))
  (case side2 => exact HC0_0.out)
  rintro e w13 ⟨rfl, hb⟩
  refine ⟨_, rfl, ?_⟩
  replace BK101 := lb_ BK101 hb
  replace HB := sb1_ HB GE101 hb
  (try clear hb)
  (try clear hb2)
  (try clear hk)
  (try clear hi)
  refine hK.out _ _ ((blk_cell BK101.out 0).trans rfl) (fun hHeld => ?_)
  clear hK K
  refine no_ (some 4) ?_
  refine pu_ 2 (some 5) (bb 9 7) HT_.out ?_
  refine pw_ 3 (some 6) (bb 9 15) HT_.out ?_
  refine pw_ 4 (some 7) (bb 9 31) HT_.out ?_
  refine pw_ 5 (some 8) (bb 9 63) HT_.out ?_
  refine pw_ 6 (some 9) (bb 9 127) HT_.out ?_
  refine pu_ 7 (some 10) (bb 9 255) HT_.out ?_
  refine pu_ 8 (some 2) (bb 9 511) HT_.out ?_
  refine done_ (done_of HT_.out (by kernel_rfl)) ?_
  try go_wp2
  go_ret
  exact ⟨rt_, be1_ HB.out GE101.out⟩
end Go.Proofs.Ytijmhelacmjggaa.P
namespace Go.Proofs.Ytijmhelacmjggaa.P
open Go.RowKit Go.Proofs.YtijmhelacmjggaaW.PrintWords Go.Proofs.YtijmhelacmjggaaW.PrintLast Go.Proofs.YtijmhelacmjggaaW.PrintMore Go.Proofs.YtijmhelacmjggaaEv
set_option linter.unusedVariables false
set_option linter.unusedSimpArgs false
theorem impl_nullable_ev (l : List S156) (hok : ∀ j, j < l.length → nodeAt l j = true) : ∀ n k : Nat, k < n → k < l.length → Ev (fun q => impl_Rx_nullable.f q l (k : Int)) (nullE l k) := by
  intro n
  induction n with
  | zero => intro k hk; omega
  | succ n ih =>
    intro k hk hkl
    have kid : ∀ i : Nat, i < (rd_T156 l (k : Int)).f2.length → Ev (fun q => impl_Rx_nullable.f q l (rd (rd_T156 l (k : Int)).f2 (i : Int))) (nullK l k (rd (rd_T156 l (k : Int)).f2 (i : Int)).toNat) := by
      intro i hi
      obtain ⟨h1, h2⟩ := node_kid (hok k hkl) i hi
      have h3 := ih _ (by omega) (Nat.lt_trans h2 hkl)
      rw [← h1] at h3
      rw [nullK_stable hok l.length _ (by omega) (by omega) k h2]
      exact h3
    have k0 := kid 0
    have k1 := kid 1
    simp only [Int.ofNat_zero, Int.natCast_one, Int.cast_ofNat_Int] at k0 k1
    have hE : nullE l k = nullK l (k + 1) k := rfl
    rw [hE]
    simp only [nullK]
    generalize nullK l k (rd (rd_T156 l (k : Int)).f2 0).toNat = b0 at *
    generalize nullK l k (rd (rd_T156 l (k : Int)).f2 1).toNat = b1 at *
    have yes : ∀ x12 a b c d e, Ev (fun q => impl_Rx_nullable.j0 q x12 true l a b c d e) true := by
      intro x12 a b c d e
      rw [ev_succ]
      simp only [impl_Rx_nullable.j0, if_true]
      exact ev_some.2 rfl
    rcases node_ops (hok k hkl) with (h | h) | ⟨h | h, hl⟩ | ⟨h | h | h | h, hl⟩
    · refine ev_congr (r := true) ?_ (by simp [h])
      rw [ev_succ]
      simp only [impl_Rx_nullable.f, ev_ite]
      rw [if_pos (by omega), if_pos (by omega)]
      rw [if_pos h, h, show ((1 : Int) == 1) = true from rfl]
      exact yes _ _ _ _ _ _
    · refine ev_congr (r := false) ?_ (by simp [h])
      rw [ev_succ]
      simp only [impl_Rx_nullable.f, ev_ite]
      rw [if_pos (by omega), if_pos (by omega)]
      rw [if_neg (by omega), if_neg (by omega), h, show ((2 : Int) == 7) = false from rfl, ev_succ]
      simp only [impl_Rx_nullable.j0, Bool.false_eq_true, if_false, ev_ite]
      first | rw [if_pos trivial] | rw [if_pos rfl]
      exact ev_some.2 rfl
    · refine ev_congr (r := (b0 && b1)) ?_ (by simp [h])
      rw [ev_succ]
      simp only [impl_Rx_nullable.f, ev_ite]
      rw [if_pos (by omega), if_pos (by omega)]
      rw [if_neg (by omega), if_neg (by omega), h, show ((3 : Int) == 7) = false from rfl, ev_succ]
      simp only [impl_Rx_nullable.j0, Bool.false_eq_true, if_false, ev_ite]
      rw [if_neg (by omega)]
      first | rw [if_pos trivial] | rw [if_pos rfl]
      rw [if_pos (by omega), ev_bind (k0 (by omega)), ev_ite]
      cases b0
      · rw [if_neg (by simp)]
        exact ev_some.2 rfl
      · rw [if_pos rfl, ev_ite, if_pos (by omega), ev_bind (k1 (by omega))]
        exact ev_some.2 rfl
    · refine ev_congr (r := (b0 || b1)) ?_ (by simp [h])
      rw [ev_succ]
      simp only [impl_Rx_nullable.f, ev_ite]
      rw [if_pos (by omega), if_pos (by omega)]
      rw [if_neg (by omega), if_neg (by omega), h, show ((4 : Int) == 7) = false from rfl, ev_succ]
      simp only [impl_Rx_nullable.j0, Bool.false_eq_true, if_false, ev_ite]
      rw [if_neg (by omega), if_neg (by omega)]
      first | rw [if_pos trivial] | rw [if_pos rfl]
      rw [if_pos (by omega), ev_bind (k0 (by omega)), ev_ite]
      cases b0
      · rw [if_neg (by simp), ev_ite, if_pos (by omega), ev_bind (k1 (by omega))]
        exact ev_some.2 rfl
      · rw [if_pos rfl]
        exact ev_some.2 rfl
    · refine ev_congr (r := true) ?_ (by simp [h])
      rw [ev_succ]
      simp only [impl_Rx_nullable.f, ev_ite]
      rw [if_pos (by omega), if_pos (by omega)]
      rw [if_neg (by omega), if_pos h, h, show ((5 : Int) == 5) = true from rfl]
      exact yes _ _ _ _ _ _
    · refine ev_congr (r := b0) ?_ (by simp [h])
      rw [ev_succ]
      simp only [impl_Rx_nullable.f, ev_ite]
      rw [if_pos (by omega), if_pos (by omega)]
      rw [if_neg (by omega), if_neg (by omega), h, show ((6 : Int) == 7) = false from rfl, ev_succ]
      simp only [impl_Rx_nullable.j0, Bool.false_eq_true, if_false, ev_ite]
      rw [if_neg (by omega), if_neg (by omega), if_neg (by omega), if_neg (by omega), if_pos (by omega), ev_bind (k0 (by omega))]
      exact ev_some.2 rfl
    · refine ev_congr (r := true) ?_ (by simp [h])
      rw [ev_succ]
      simp only [impl_Rx_nullable.f, ev_ite]
      rw [if_pos (by omega), if_pos (by omega)]
      rw [if_neg (by omega), if_neg (by omega), h, show ((7 : Int) == 7) = true from rfl]
      exact yes _ _ _ _ _ _
    · refine ev_congr (r := (decide ((rd_T156 l (k : Int)).f3 = 0) || b0)) ?_ (by simp [h])
      rw [ev_succ]
      simp only [impl_Rx_nullable.f, ev_ite]
      rw [if_pos (by omega), if_pos (by omega)]
      rw [if_neg (by omega), if_neg (by omega), h, show ((8 : Int) == 7) = false from rfl, ev_succ]
      simp only [impl_Rx_nullable.j0, Bool.false_eq_true, if_false, ev_ite]
      rw [if_neg (by omega), if_neg (by omega), if_neg (by omega)]
      first | rw [if_pos trivial] | rw [if_pos rfl]
      by_cases h3 : (rd_T156 l (k : Int)).f3 = 0
      · rw [if_pos h3]
        exact ev_some.2 (show true = _ by simp [h3])
      · rw [if_neg h3, if_pos (by omega), ev_bind (k0 (by omega))]
        exact ev_some.2 (show b0 = _ by simp [h3])
theorem impl_Nullable_ev (l : List S156) (hl : l.length ≤ 1048576) : Ev (fun k => impl_Nullable.f k l) (rxB l && nullE l (l.length - 1)) := by
  unfold impl_Nullable.f
  rw [ev_bind (impl_RxOk_ev l (by omega))]
  simp only [ev_ite]
  cases hb : rxB l
  · rw [if_neg (by simp)]
    exact ev_some.2 rfl
  · obtain ⟨h1, hn, hok⟩ := rxB_parts hb
    have hr := impl_nullable_ev l hok l.length (l.length - 1) (by omega) (by omega)
    rw [show ((l.length - 1 : Nat) : Int) = wrap64 ((l.length : Int) - 1) by rw [wrap_id (by omega) (by omega)]; omega] at hr
    rw [if_pos rfl]
    simp only [impl_Rx_last.f, impl_RNode.f, Option.bind_some]
    rw [ev_bind hr]
    exact ev_some.2 rfl
end Go.Proofs.Ytijmhelacmjggaa.P
namespace Go.Proofs.Ytijmhelacmjggaa.P
open Go.RowKit Go.Shelf Go.Proofs.YtijmhelacmjggaaW.PrintWords Go.Proofs.YtijmhelacmjggaaW.PrintLast Go.Proofs.YtijmhelacmjggaaW.PrintMore Go.Proofs.YtijmhelacmjggaaEv
set_option linter.unusedVariables false
set_option linter.unusedSimpArgs false
def AskMode (g : Nat) (lb : Array Value) (w : World) (l0 : List S108) (p : S108 → Bool) : Prop := ∀ (W : World) (x : S108) (A1 : Option Addr) (c1 : Nat), x ∈ l0 → Below w.heap.size w W → Kd.C k113 W A1 x.f1.length x.f1 → x.f1.length ≤ c1 →
  Calls Try.prog g (#[.agg #[.string x.f0, .slice A1 x.f1.length c1]] ++ lb) W fun e w' => e = .returned (.bool (p x)) ∧ Below W.heap.size W w'
set_option maxHeartbeats 4000000 in
theorem IndexFunc_Mode (g : Nat) (lb : Array Value) (eg : ∀ args w, (callFunc g args).run Try.prog w = .ok (.enter g args) w) (p : S108 → Bool) (A0 : Option Addr) (c0 : Nat) (l0 : List S108) (w : World) (hr0 : Kd.C k108 w A0 l0.length l0)
    (hp : AskMode g lb w l0 p) :
    Calls Try.prog 129 #[.slice A0 l0.length c0, .func (.func g) #[] lb] w fun e w' => e = .returned (.int .i64 (idxP p l0 0)) ∧ Below w.heap.size w w' := by
  have HP := Lib.hid hp
  clear hp
  have hn := hr0.2.1
  have HR := Aside0.mk hr0
  clear hr0
  go_enter Try.func129, Try.ntmps129
  go_wp2
  go_loopg [5, 8] l0.length (fun gg _ s8 wr => ∃ kk : Nat, kk ≤ l0.length ∧ l0.length - kk ≤ gg ∧ s8 = .int .i64 kk ∧ Aside0 (Below w.heap.size w wr) ∧ Aside0 (idxP p l0 0 = idxP p (l0.drop kk) kk))
  case atStart => exact ⟨0, Nat.zero_le _, by omega, rfl, ⟨Below.refl _ w⟩, ⟨by simp⟩⟩
  case round =>
    obtain ⟨kk, hkk, hg, rfl, BW, HA⟩ := hrel
    by_cases hlt : kk < l0.length
    · have hltz : (kk : Int) < (l0.length : Int) := by omega
      obtain ⟨ad, A1, c1, rfl, hx0, hx1, hl, hi⟩ := at_T108 HR.out (kk : Int) (by omega) hltz
      rw [Int.toNat_natCast] at hx0 hx1
      replace hx0 := mv_ BW.out hx0
      replace hx1 := mv_ BW.out hx1
      have hmem : rd_T108 l0 (kk : Int) ∈ l0 := by
        unfold rd_T108
        rw [List.getD_eq_getElem?_getD, List.getElem?_eq_getElem (by simpa using hlt)]
        exact List.getElem_mem _
      have hcall := HP.out wr (rd_T108 l0 (kk : Int)) A1 c1 hmem BW.out (Kd.C_below hi BW.out) hl
      have hstep : Aside0 (idxP p l0 0 = if p (rd_T108 l0 (kk : Int)) then (kk : Int) else idxP p (l0.drop (kk + 1)) ((kk + 1 : Nat) : Int)) := ⟨by
        rw [HA.out, drop_cons l0 z108 kk hlt]
        have hr : l0.getD kk z108 = rd_T108 l0 (kk : Int) := by simp [rd_T108]
        rw [hr]
        rfl⟩
      clear hmem hi hl
      generalize rd_T108 l0 (kk : Int) = y at *
      cases hq : p y with
      | true =>
        rw [hq] at hcall
        have hs2 : Aside0 (idxP p l0 0 = (kk : Int)) := ⟨by rw [hstep.out, hq]; rfl⟩
        clear hstep hq HA
        go_wp2_with (go_at_fn g; refine hcall.mono ?_; rintro e w' ⟨rfl, hb'⟩)
        go_ret
        exact ⟨by (rw [hs2.out]; try rfl), below_then BW.out BW.out.size hb'⟩
      | false =>
        rw [hq] at hcall
        have hs2 : Aside0 (idxP p l0 0 = idxP p (l0.drop (kk + 1)) ((kk + 1 : Nat) : Int)) := ⟨by rw [hstep.out, hq]; rfl⟩
        clear hstep hq HA
        go_wp2_with (go_at_fn g; refine hcall.mono ?_; rintro e w' ⟨rfl, hb'⟩)
        go_roundg (l0.length - (kk + 1))
        case measure => omega
        case rel => exact ⟨kk + 1, by omega, by omega, by go_num, ⟨below_then BW.out BW.out.size hb'⟩, hs2⟩
    · have hltz : ¬ (kk : Int) < (l0.length : Int) := by omega
      have hk : kk = l0.length := by omega
      have hs2 : Aside0 (idxP p l0 0 = -1) := ⟨by rw [HA.out, hk]; simp [idxP]⟩
      clear hk HA
      go_wp2
      go_ret
      exact ⟨by (rw [hs2.out]; try rfl), BW.out⟩
/-- Whether a mode has a name. -/
def named (nm : ByteArray) (m : S108) : Bool := m.f0.toList == nm.toList
/-- The place of the first mode of a name; -1 where there is none. -/
def modeAtP (l : List S108) (nm : ByteArray) : Int := idxP (named nm) l 0
set_option maxHeartbeats 4000000 in
theorem ModeAt_1_calls (B : Nat) (nm : ByteArray) (W : World) (x : S108) (A1 : Option Addr) (c1 : Nat) (hcell : W.cell? ⟨B, 0, none⟩ = some (.string nm)) :
    Calls Try.prog 130 (#[.agg #[.string x.f0, .slice A1 x.f1.length c1]] ++ #[.pointer (some ⟨B, 0, none⟩)]) W fun e w' => e = .returned (.bool (named nm x)) ∧ Below W.heap.size W w' := by
  obtain ⟨b, hb⟩ : ∃ b, named nm x = b := ⟨_, rfl⟩
  rw [hb]
  unfold named at hb
  have hlt := World.block_lt_of_cell? W _ hcell
  have hc2 : ∀ o, (W.alloc o).cell? ⟨B, 0, none⟩ = some (.string nm) := fun o => ((below_alloc (Below.refl _ _) o : Below W.heap.size W _).cell hlt).trans hcell
  have hne : (B == W.heap.size) = false := beq_eq_false_iff_ne.mpr (by have : B < W.heap.size := hlt; omega)
  show Calls Try.prog _ #[.agg #[.string x.f0, .slice A1 x.f1.length c1], .pointer (some ⟨B, 0, none⟩)] W _
  go_enter Try.func130, Try.ntmps130
  go_wp2_with fail
  go_ret
  exact ⟨by first | (rw [← hb]; done) | (rw [← hb]; rfl) | simp [*], by repeat (first | exact Below.refl _ _ | apply below_alloc | apply pw_below_drewN | apply below_drew1)⟩
set_option maxHeartbeats 4000000 in
theorem ModeAt_hand (A0 : Option Addr) (c0 : Nat) (l0 : List S108) (nm : ByteArray) (w : World) (hr0 : Kd.C k108 w A0 l0.length l0) :
    Calls Try.prog 82 #[.agg #[.slice A0 l0.length c0], .string nm] w fun e w' => e = .returned (.int .i64 (modeAtP l0 nm)) ∧ Below w.heap.size w w' := by
  have eg : ∀ args w, (callFunc 130 args).run Try.prog w = .ok (.enter 130 args) w := enters_of Try.func130 (by kernel_rfl) rfl
  have HB := Aside0.mk (below_alloc (below_alloc (Below.refl w.heap.size w) (.cells #[.slice A0 l0.length c0] 46)) (.cells #[.string nm] 9))
  have hcf : Aside0 (Calls Try.prog 129 #[.slice A0 l0.length c0, .func (.func 130) #[] #[.pointer (some ⟨w.heap.size + 1, 0, none⟩)]] ((w.alloc (.cells #[.slice A0 l0.length c0] 46)).alloc (.cells #[.string nm] 9)) fun e w' => e = .returned (.int .i64 (modeAtP l0 nm)) ∧ Below ((w.alloc (.cells #[.slice A0 l0.length c0] 46)).alloc (.cells #[.string nm] 9)).heap.size ((w.alloc (.cells #[.slice A0 l0.length c0] 46)).alloc (.cells #[.string nm] 9)) w') := ⟨by
    refine IndexFunc_Mode _ _ eg _ A0 c0 l0 _ (Kd.C_below hr0 HB.out) ?_
    intro W x A1 c1 _ hb _ _
    have hbk := blk_new (w.alloc (.cells #[.slice A0 l0.length c0] 46)) (.cells #[.string nm] 9)
    have hs : (w.alloc (.cells #[.slice A0 l0.length c0] 46)).heap.size = w.heap.size + 1 := by simp [World.alloc_eq]
    rw [hs] at hbk
    exact ModeAt_1_calls (w.heap.size + 1) nm W x A1 c1 (mv_ hb ((blk_cell hbk 0).trans rfl))⟩
  clear eg hr0
  generalize modeAtP l0 nm = m at *
  go_enter Try.func82, Try.ntmps82
  go_wp2_with (go_at_call 129; refine hcf.out.mono ?_; rintro e w' ⟨rfl, hb⟩)
  go_ret
  exact ⟨rfl, below_then HB.out HB.out.size hb⟩
end Go.Proofs.Ytijmhelacmjggaa.P
namespace Go.Proofs.Ytijmhelacmjggaa.P
open Go.RowKit Go.Proofs.YtijmhelacmjggaaW.PrintWords Go.Proofs.YtijmhelacmjggaaW.PrintLast Go.Proofs.YtijmhelacmjggaaW.PrintMore
attribute [local go_sem] max2_int min2_int max_two min_two max_three min_three max_four min_four
set_option linter.unusedVariables false
set_option linter.unusedSimpArgs false
/-! ### impl_length: function 128 -/
def impl_length.f (a0 : ByteArray) : Option (Int) := some (a0.size : Int)
set_option maxHeartbeats 8000000 in
set_option maxRecDepth 100000 in
theorem impl_length.calls (a0 : ByteArray) (r : Int) (w : World) (h : impl_length.f a0 = some r) :
  Calls Try.prog 128 #[.string a0] w fun e w' => e = .returned (.int .i64 r) ∧ Drawn0 w w' := by
 have H : (some (a0.size : Int)) = some r := h
 clear h
 obtain rfl := Option.some.inj H
 go_enter Try.func128, Try.ntmps128
 go_wp2
 go_ret
 exact ⟨by first | rfl | (simp; done) | (simp [*]; done), by repeat (first | exact Drawn0.refl _ | apply Drawn0.step)⟩
/-! ### impl_isName: function 81 -/
def impl_isName.l0 : Nat → ByteArray → Int → Int → Option (Bool)
 | 0, _, _, _ => none
 | k + 1, x0, x6, x7 => if x7 < x6 then (if 0 ≤ x7 then (if x7 < (x0.size : Int) then (if (bt x0 x7) ≥ 97 then (if ((bt x0 x7) ≤ 122) then (impl_isName.l0 k x0 x6 (wrap64 (x7 + 1))) else (if x7 = 0 then (some false) else (if (bt x0 x7) < 48 then (some false) else (if (bt x0 x7) > 57 then (some false) else (impl_isName.l0 k x0 x6 (wrap64 (x7 + 1))))))) else (if x7 = 0 then (some false) else (if (bt x0 x7) < 48 then (some false) else (if (bt x0 x7) > 57 then (some false) else (impl_isName.l0 k x0 x6 (wrap64 (x7 + 1))))))) else (none)) else (none)) else ((impl_length.f x0).bind fun t101 => ((impl_within.f t101 1 12).bind fun t102 => (some t102)))
def impl_isName.f (k : Nat) (a0 : ByteArray) : Option (Bool) := impl_isName.l0 k a0 (a0.size : Int) 0
set_option maxHeartbeats 8000000 in
set_option maxRecDepth 100000 in
theorem impl_isName.calls (k : Nat) (a0 : ByteArray) (r : Bool) (w : World) (h : impl_isName.f k a0 = some r) :
  Calls Try.prog 81 #[.string a0] w fun e w' => e = .returned (.bool r) ∧ Drawn0 w w' := by
 have H : (impl_isName.l0 k a0 (a0.size : Int) 0) = some r := h
 clear h
 have H' := Aside0.mk H
 clear H
 go_enter Try.func81, Try.ntmps81
 go_wp2
 go_loopg [7] k (fun kq v7 w' => ∃ (x7_1 : Int), v7 = .int .i64 x7_1 ∧ Aside0 (impl_isName.l0 kq a0 (a0.size : Int) x7_1 = some r) ∧ Aside0 (kq ≤ k) ∧ Drawn0 w w')
 case atStart => exact ⟨(0), rs_, H', ⟨Nat.le_refl _⟩, by repeat (first | exact Drawn0.refl _ | apply Drawn0.step)⟩
 case round =>
  clear H'
  obtain ⟨x7_1, rfl, HA, HK1, ⟨m1, rfl⟩⟩ := hrel
  cases gk with
  | zero => exact absurd HA.out (by simp [impl_isName.l0])
  | succ k1 =>
   have H := HA.out
   clear HA
   simp only [impl_isName.l0] at H
   by_cases c2 : x7_1 < (a0.size : Int)
   ·rw [if_pos c2] at H
    have c2b0 := decide_eq_true c2
    clear c2
    by_cases c3 : 0 ≤ x7_1
    ·rw [if_pos c3] at H
     have c3b0 := decide_eq_true c3
     clear c3
     by_cases c4 : x7_1 < (a0.size : Int)
     ·rw [if_pos c4] at H
      have c4b0 := decide_eq_true c4
      clear c4
      by_cases c6 : (bt a0 x7_1) ≥ 97
      ·rw [if_pos c6] at H
       have c6b0 : decide (97 ≤ (bt a0 x7_1)) = true := decide_eq_true c6
       clear c6
       by_cases c7 : ((bt a0 x7_1) ≤ 122)
       ·rw [if_pos c7] at H
        have c7b0 : decide ((bt a0 x7_1) ≤ 122) = true := decide_eq_true c7
        clear c7
        have H' := Aside0.mk H
        clear H
        have p5 : 0 ≤ (x7_1 : Int) := of_decide_eq_true as_
        have q5 : x7_1 < (a0.size : Int) := of_decide_eq_true as_
        have hx5 := bt_at a0 x7_1
        replace p5 := eq_true p5
        replace q5 := eq_true q5
        go_wp2
        go_roundg k1
        case measure => have := HK1.out; omega
        case rel => exact ⟨(wrap64 (x7_1 + 1)), rs_, H', ⟨by have := HK1.out; omega⟩, by repeat (first | exact Drawn0.refl _ | apply Drawn0.step)⟩
       ·rw [if_neg c7] at H
        have c7b0 : decide ((bt a0 x7_1) ≤ 122) = false := decide_eq_false c7
        clear c7
        by_cases c8 : x7_1 = 0
        ·rw [if_pos c8] at H
         have c8b0 : (x7_1 == 0) = true := beq_iff_eq.mpr c8
         have c8b1 : (x7_1 != 0) = false := bne_eq_false_iff_eq.mpr c8
         clear c8
         obtain rfl := Option.some.inj H
         have p5 : 0 ≤ (x7_1 : Int) := of_decide_eq_true as_
         have q5 : x7_1 < (a0.size : Int) := of_decide_eq_true as_
         have hx5 := bt_at a0 x7_1
         replace p5 := eq_true p5
         replace q5 := eq_true q5
         go_wp2
         go_ret
         exact ⟨by first | rfl | (simp; done) | (simp [*]; done), by repeat (first | exact Drawn0.refl _ | apply Drawn0.step)⟩
        ·rw [if_neg c8] at H
         have c8b0 : (x7_1 == 0) = false := beq_eq_false_iff_ne.mpr c8
         have c8b1 : (x7_1 != 0) = true := bne_iff_ne.mpr c8
         by_cases c9 : (bt a0 x7_1) < 48
         ·rw [if_pos c9] at H
          have c9b0 := decide_eq_true c9
          clear c9
          obtain rfl := Option.some.inj H
          have p5 : 0 ≤ (x7_1 : Int) := of_decide_eq_true as_
          have q5 : x7_1 < (a0.size : Int) := of_decide_eq_true as_
          have hx5 := bt_at a0 x7_1
          replace p5 := eq_true p5
          replace q5 := eq_true q5
          go_wp2
          go_ret
          exact ⟨by first | rfl | (simp; done) | (simp [*]; done), by repeat (first | exact Drawn0.refl _ | apply Drawn0.step)⟩
         ·rw [if_neg c9] at H
          have c9b0 := decide_eq_false c9
          clear c9
          by_cases c10 : (bt a0 x7_1) > 57
          ·rw [if_pos c10] at H
           have c10b0 : decide (57 < (bt a0 x7_1)) = true := decide_eq_true c10
           clear c10
           obtain rfl := Option.some.inj H
           have p5 : 0 ≤ (x7_1 : Int) := of_decide_eq_true as_
           have q5 : x7_1 < (a0.size : Int) := of_decide_eq_true as_
           have hx5 := bt_at a0 x7_1
           replace p5 := eq_true p5
           replace q5 := eq_true q5
           go_wp2
           go_ret
           exact ⟨by first | rfl | (simp; done) | (simp [*]; done), by repeat (first | exact Drawn0.refl _ | apply Drawn0.step)⟩
          ·rw [if_neg c10] at H
           have c10b0 : decide (57 < (bt a0 x7_1)) = false := decide_eq_false c10
           clear c10
           have H' := Aside0.mk H
           clear H
           have p5 : 0 ≤ (x7_1 : Int) := of_decide_eq_true as_
           have q5 : x7_1 < (a0.size : Int) := of_decide_eq_true as_
           have hx5 := bt_at a0 x7_1
           replace p5 := eq_true p5
           replace q5 := eq_true q5
           go_wp2
           go_roundg k1
           case measure => have := HK1.out; omega
           case rel => exact ⟨(wrap64 (x7_1 + 1)), rs_, H', ⟨by have := HK1.out; omega⟩, by repeat (first | exact Drawn0.refl _ | apply Drawn0.step)⟩
      ·rw [if_neg c6] at H
       have c6b0 : decide (97 ≤ (bt a0 x7_1)) = false := decide_eq_false c6
       clear c6
       by_cases c11 : x7_1 = 0
       ·rw [if_pos c11] at H
        have c11b0 : (x7_1 == 0) = true := beq_iff_eq.mpr c11
        have c11b1 : (x7_1 != 0) = false := bne_eq_false_iff_eq.mpr c11
        clear c11
        obtain rfl := Option.some.inj H
        have p5 : 0 ≤ (x7_1 : Int) := of_decide_eq_true as_
        have q5 : x7_1 < (a0.size : Int) := of_decide_eq_true as_
        have hx5 := bt_at a0 x7_1
        replace p5 := eq_true p5
        replace q5 := eq_true q5
        go_wp2
        go_ret
        exact ⟨by first | rfl | (simp; done) | (simp [*]; done), by repeat (first | exact Drawn0.refl _ | apply Drawn0.step)⟩
       ·rw [if_neg c11] at H
        have c11b0 : (x7_1 == 0) = false := beq_eq_false_iff_ne.mpr c11
        have c11b1 : (x7_1 != 0) = true := bne_iff_ne.mpr c11
        by_cases c12 : (bt a0 x7_1) < 48
        ·rw [if_pos c12] at H
         have c12b0 := decide_eq_true c12
         clear c12
         obtain rfl := Option.some.inj H
         have p5 : 0 ≤ (x7_1 : Int) := of_decide_eq_true as_
         have q5 : x7_1 < (a0.size : Int) := of_decide_eq_true as_
         have hx5 := bt_at a0 x7_1
         replace p5 := eq_true p5
         replace q5 := eq_true q5
         go_wp2
         go_ret
         exact ⟨by first | rfl | (simp; done) | (simp [*]; done), by repeat (first | exact Drawn0.refl _ | apply Drawn0.step)⟩
        ·rw [if_neg c12] at H
         have c12b0 := decide_eq_false c12
         clear c12
         by_cases c13 : (bt a0 x7_1) > 57
         ·rw [if_pos c13] at H
          have c13b0 : decide (57 < (bt a0 x7_1)) = true := decide_eq_true c13
          clear c13
          obtain rfl := Option.some.inj H
          have p5 : 0 ≤ (x7_1 : Int) := of_decide_eq_true as_
          have q5 : x7_1 < (a0.size : Int) := of_decide_eq_true as_
          have hx5 := bt_at a0 x7_1
          replace p5 := eq_true p5
          replace q5 := eq_true q5
          go_wp2
          go_ret
          exact ⟨by first | rfl | (simp; done) | (simp [*]; done), by repeat (first | exact Drawn0.refl _ | apply Drawn0.step)⟩
         ·rw [if_neg c13] at H
          have c13b0 : decide (57 < (bt a0 x7_1)) = false := decide_eq_false c13
          clear c13
          have H' := Aside0.mk H
          clear H
          have p5 : 0 ≤ (x7_1 : Int) := of_decide_eq_true as_
          have q5 : x7_1 < (a0.size : Int) := of_decide_eq_true as_
          have hx5 := bt_at a0 x7_1
          replace p5 := eq_true p5
          replace q5 := eq_true q5
          go_wp2
          go_roundg k1
          case measure => have := HK1.out; omega
          case rel => exact ⟨(wrap64 (x7_1 + 1)), rs_, H', ⟨by have := HK1.out; omega⟩, by repeat (first | exact Drawn0.refl _ | apply Drawn0.step)⟩
     ·rw [if_neg c4] at H
      exact absurd H (by simp)
    ·rw [if_neg c3] at H
     exact absurd H (by simp)
   ·rw [if_neg c2] at H
    have c2b0 := decide_eq_false c2
    clear c2
    obtain ⟨t101, A14, H⟩ := ob_ H
    obtain ⟨t102, A15, H⟩ := ob_ H
    obtain rfl := Option.some.inj H
    go_wp2_with (first | ((with_reducible refine gate_callee (f := 128) rfl ?_); refine gl_ (some 34) rfl rfl Try.func128 #[.string a0] ?_; (with_reducible refine (impl_length.calls a0 t101 _ A14.out).mono ?_); rintro e w' ⟨rfl, ⟨nd, rfl⟩⟩; refine ⟨_, rfl, ?_⟩) | ((with_reducible refine gate_callee (f := 79) rfl ?_); refine gl_ (some 35) rfl rfl Try.func79 #[.int .i64 t101, .int .i64 1, .int .i64 12] ?_; (with_reducible refine (impl_within.calls t101 1 12 t102 _ A15.out).mono ?_); rintro e w' ⟨rfl, ⟨nd, rfl⟩⟩; refine ⟨_, rfl, ?_⟩))
    go_ret
    exact ⟨by first | rfl | (simp; done) | (simp [*]; done), by repeat (first | exact Drawn0.refl _ | apply Drawn0.step)⟩
/-! ### impl_ModeAt: function 82 -/
def impl_ModeAt.f (l0_0 : List (S108)) (a1 : ByteArray) : Option (Int) := some (modeAtP l0_0 a1)
theorem impl_ModeAt.calls (A0_0 : Option Addr) (c0_0 : Nat) (l0_0 : List (S108)) (a1 : ByteArray) (r : Int) (w : World) (hr0_0 : Kd.C k108 w A0_0 l0_0.length l0_0) (hc0_0 : l0_0.length ≤ c0_0) (h : impl_ModeAt.f l0_0 a1 = some r) :
    Calls Try.prog 82 #[.agg #[.slice A0_0 l0_0.length c0_0], .string a1] w fun e w' => e = .returned (.int .i64 r) ∧ Below w.heap.size w w' := by
  obtain rfl := Option.some.inj h
  exact ModeAt_hand A0_0 c0_0 l0_0 a1 w hr0_0
/-! ### impl_Rule_hasTarget: function 95 -/
def impl_Rule_hasTarget.f (a0_0 : ByteArray) (l0_1 : List (S156)) (a0_2 : Bool) (a0_3 : Int) (a0_4 : ByteArray) : Option (Bool) := if a0_3 = 1 then (some true) else (some (a0_3 == 2))
set_option maxHeartbeats 8000000 in
set_option maxRecDepth 100000 in
theorem impl_Rule_hasTarget.calls (a0_0 : ByteArray) (A0_1 : Option Addr) (c0_1 : Nat) (l0_1 : List (S156)) (a0_2 : Bool) (a0_3 : Int) (a0_4 : ByteArray) (r : Bool) (w : World) (hr0_1 : Kd.C k156 w A0_1 l0_1.length l0_1) (hc0_1 : l0_1.length ≤ c0_1) (h : impl_Rule_hasTarget.f a0_0 l0_1 a0_2 a0_3 a0_4 = some r) :
  Calls Try.prog 95 #[.agg #[.string a0_0, .slice A0_1 l0_1.length c0_1, .bool a0_2, .int .i64 a0_3, .string a0_4]] w fun e w' => e = .returned (.bool r) ∧ Below w.heap.size w w' := by
 have hu113 := Try.underlying113
 have HR0_1 := Aside0.mk hr0_1
 have HC0_1 := Aside0.mk hc0_1
 clear hr0_1 hc0_1
 have HB := Aside0.mk (Below.refl w.heap.size w)
 have H : (if a0_3 = 1 then (some true) else (some (a0_3 == 2))) = some r := h
 clear h
 by_cases c2 : a0_3 = 1
 ·rw [if_pos c2] at H
  have c2b0 : (a0_3 == 1) = true := beq_iff_eq.mpr c2
  have c2b1 : (a0_3 != 1) = false := bne_eq_false_iff_eq.mpr c2
  clear c2
  obtain rfl := Option.some.inj H
  go_enter Try.func95, Try.ntmps95
  go_wp2_with (first | ((with_reducible refine gate_dst (N := 1) rfl ?_); refine bx_ 1 #[.string a0_0, .slice A0_1 l0_1.length c0_1, .bool a0_2, .int .i64 a0_3, .string a0_4] 113 ?_; intro gb101 hg w3 hbox hb; have BK101 := Aside0.mk (hbox); have GW101 := ge_ hg HB; have GE101 := GW101; replace HB := sb_ HB hb; clear hb hbox hg; obtain ⟨hcz4_0, hcz4_1, hcz4_2, hcz4_3, hcz4_4, hfz4_0, hfz4_1, hfz4_2, hfz4_3, hfz4_4⟩ := d5_ BK101))
  go_ret
  exact ⟨rt_, be1_ HB.out GE101.out⟩
 ·rw [if_neg c2] at H
  have c2b0 : (a0_3 == 1) = false := beq_eq_false_iff_ne.mpr c2
  have c2b1 : (a0_3 != 1) = true := bne_iff_ne.mpr c2
  obtain rfl := Option.some.inj H
  go_enter Try.func95, Try.ntmps95
  go_wp2_with (first | ((with_reducible refine gate_dst (N := 1) rfl ?_); refine bx_ 1 #[.string a0_0, .slice A0_1 l0_1.length c0_1, .bool a0_2, .int .i64 a0_3, .string a0_4] 113 ?_; intro gb101 hg w5 hbox hb; have BK101 := Aside0.mk (hbox); have GW101 := ge_ hg HB; have GE101 := GW101; replace HB := sb_ HB hb; clear hb hbox hg; obtain ⟨hcz6_0, hcz6_1, hcz6_2, hcz6_3, hcz6_4, hfz6_0, hfz6_1, hfz6_2, hfz6_3, hfz6_4⟩ := d5_ BK101))
  go_ret
  exact ⟨rt_, be1_ HB.out GE101.out⟩
/-! ### impl_ruleOk: function 86 -/
def impl_ruleOk.j0 : Nat → Bool → List (S108) → ByteArray → List (S156) → Bool → Int → ByteArray → Option (Bool)
 | 0, _, _, _, _, _, _, _ => none
 | k + 1, x25, x102000, x103000, x103001, x103002, x103003, x103004 => if x25 = true then (some false) else ((impl_Rule_hasTarget.f x103000 x103001 x103002 x103003 x103004).bind fun t107 => (if t107 = true then ((impl_ModeAt.f x102000 x103004).bind fun t108 => (some (decide (t108 ≥ 0)))) else (some (x103004.toList == ([] : List UInt8)))))
def impl_ruleOk.f (k : Nat) (l0_0 : List (S108)) (a1_0 : ByteArray) (l1_1 : List (S156)) (a1_2 : Bool) (a1_3 : Int) (a1_4 : ByteArray) : Option (Bool) := (impl_isName.f k a1_0).bind fun t103 => (if t103 = true then ((impl_RxOk.f k l1_1).bind fun t104 => (if t104 = true then ((impl_Nullable.f k l1_1).bind fun t105 => (if t105 = true then (impl_ruleOk.j0 k true l0_0 a1_0 l1_1 a1_2 a1_3 a1_4) else ((impl_within.f a1_3 0 3).bind fun t106 => (impl_ruleOk.j0 k (!t106) l0_0 a1_0 l1_1 a1_2 a1_3 a1_4)))) else (impl_ruleOk.j0 k true l0_0 a1_0 l1_1 a1_2 a1_3 a1_4))) else (impl_ruleOk.j0 k true l0_0 a1_0 l1_1 a1_2 a1_3 a1_4))
set_option maxHeartbeats 8000000 in
set_option maxRecDepth 100000 in
theorem impl_ruleOk.calls (k : Nat) (A0_0 : Option Addr) (c0_0 : Nat) (l0_0 : List (S108)) (a1_0 : ByteArray) (A1_1 : Option Addr) (c1_1 : Nat) (l1_1 : List (S156)) (a1_2 : Bool) (a1_3 : Int) (a1_4 : ByteArray) (r : Bool) (w : World) (hr0_0 : Kd.C k108 w A0_0 l0_0.length l0_0) (hc0_0 : l0_0.length ≤ c0_0) (hr1_1 : Kd.C k156 w A1_1 l1_1.length l1_1) (hc1_1 : l1_1.length ≤ c1_1) (h : impl_ruleOk.f k l0_0 a1_0 l1_1 a1_2 a1_3 a1_4 = some r) :
  Calls Try.prog 86 #[.agg #[.slice A0_0 l0_0.length c0_0], .agg #[.string a1_0, .slice A1_1 l1_1.length c1_1, .bool a1_2, .int .i64 a1_3, .string a1_4]] w fun e w' => e = .returned (.bool r) ∧ Below w.heap.size w w' := by
 have hu46 := Try.underlying46
 have hu113 := Try.underlying113
 have hu29 := Try.underlying29
 have HR0_0 := Aside0.mk hr0_0
 have HC0_0 := Aside0.mk hc0_0
 clear hr0_0 hc0_0
 have HR1_1 := Aside0.mk hr1_1
 have HC1_1 := Aside0.mk hc1_1
 clear hr1_1 hc1_1
 have HB := Aside0.mk (Below.refl w.heap.size w)
 have H : ((impl_isName.f k a1_0).bind fun t103 => (if t103 = true then ((impl_RxOk.f k l1_1).bind fun t104 => (if t104 = true then ((impl_Nullable.f k l1_1).bind fun t105 => (if t105 = true then (impl_ruleOk.j0 k true l0_0 a1_0 l1_1 a1_2 a1_3 a1_4) else ((impl_within.f a1_3 0 3).bind fun t106 => (impl_ruleOk.j0 k (!t106) l0_0 a1_0 l1_1 a1_2 a1_3 a1_4)))) else (impl_ruleOk.j0 k true l0_0 a1_0 l1_1 a1_2 a1_3 a1_4))) else (impl_ruleOk.j0 k true l0_0 a1_0 l1_1 a1_2 a1_3 a1_4))) = some r := h
 clear h
 have HC3 := Aside0.mk H
 clear H
 go_enter Try.func86, Try.ntmps86
 go_upto_region 1 with (first | ((with_reducible refine gate_dst (N := 2) rfl ?_); refine bx_ 2 #[.slice A0_0 l0_0.length c0_0] 46 ?_; intro gb101 hg w4 hbox hb; have BK101 := Aside0.mk (hbox); have GW101 := ge_ hg HB; have GE101 := GW101; replace HB := sb_ HB hb; clear hb hbox hg) | ((with_reducible refine gate_dst (N := 3) rfl ?_); refine bx_ 3 #[.string a1_0, .slice A1_1 l1_1.length c1_1, .bool a1_2, .int .i64 a1_3, .string a1_4] 113 ?_; intro gb102 hg w5 hbox hb; have BK102 := Aside0.mk (hbox); have GW102 := ge1_ hg HB GE101; have GE102 := GW102; have NB101_102 := nl_ hg BK101; have NB102_101 := ng_ hg BK101; replace BK101 := lb_ BK101 hb; replace HB := sb1_ HB GE101 hb; clear hb hbox hg))
 (try simp only [Act.put, List.setIfInBounds_toArray, List.set_cons_zero, List.set_cons_succ])
 go_cut [25] (fun v25 wc => ∃ (kq : Nat) (x25_2 : Bool), v25 = .bool x25_2 ∧ Aside0 (impl_ruleOk.j0 kq x25_2 l0_0 a1_0 l1_1 a1_2 a1_3 a1_4 = some r) ∧ Aside0 (kq ≤ k) ∧ Aside0 (wc.heap[gb101]? = some (.cells #[(.slice A0_0 l0_0.length c0_0)] 46 (0, 0))) ∧ Aside0 (wc.heap[gb102]? = some (.cells #[.string a1_0, (.slice A1_1 l1_1.length c1_1), .bool a1_2, .int .i64 a1_3, .string a1_4] 113 (0, 0))) ∧ Aside0 (Below w.heap.size w wc))
 case first =>
  have H := HC3.out
  clear HC3
  obtain ⟨t103, A6, H⟩ := ob_ H
  by_cases c7 : t103 = true
  ·subst c7
   rw [if_pos rfl] at H
   obtain ⟨t104, A8, H⟩ := ob_ H
   by_cases c9 : t104 = true
   ·subst c9
    rw [if_pos rfl] at H
    obtain ⟨t105, A10, H⟩ := ob_ H
    by_cases c11 : t105 = true
    ·subst c11
     rw [if_pos rfl] at H
     have H' := Aside0.mk H
     clear H
     have hnb12 := NB102_101.out
     have hnc12 := NB101_102.out
     obtain ⟨hcz13_0, hcz13_1, hcz13_2, hcz13_3, hcz13_4, hfz13_0, hfz13_1, hfz13_2, hfz13_3, hfz13_4⟩ := d5_ BK102
     go_wp2_with (first | ((with_reducible refine gate_callee (f := 81) rfl ?_); refine gl_ (some 7) rfl rfl Try.func81 #[.string a1_0] ?_; (with_reducible refine (impl_isName.calls k a1_0 true _ A6.out).mono ?_); rintro e w' ⟨rfl, ⟨nd, rfl⟩⟩; refine ⟨_, rfl, ?_⟩) | (go_at_call 62; (with_reducible refine (impl_RxOk.calls k _ _ l1_1 true _ ?side1 ?side2 A8.out).mono ?_); (case side1 => repeat (first | exact (Kd.C_below HR1_1.out (be2_ HB.out GE101.out GE102.out)) | (with_reducible refine Kd.C_alloc ?_ _) | (with_reducible refine Kd.C_drewN ?_ _) | (with_reducible refine Kd.C_drew ?_))); (case side2 => exact HC1_1.out); rintro e w14 ⟨rfl, hb⟩; replace BK101 := lb_ BK101 hb; replace BK102 := lb_ BK102 hb; replace HB := sb2_ HB GE101 GE102 hb; (try clear hb); obtain ⟨hcz15_0, hcz15_1, hcz15_2, hcz15_3, hcz15_4, hfz15_0, hfz15_1, hfz15_2, hfz15_3, hfz15_4⟩ := d5_ BK102) | (go_at_call 18; (with_reducible refine (impl_Nullable.calls k _ _ l1_1 true _ ?side1 ?side2 A10.out).mono ?_); (case side1 => exact Kd.C_below HR1_1.out (be_ HB.out)); (case side2 => exact HC1_1.out); rintro e w16 ⟨rfl, hb⟩; replace BK101 := lb_ BK101 hb; replace BK102 := lb_ BK102 hb; replace HB := sb2_ HB GE101 GE102 hb; (try clear hb)))
     go_meet
     case rel => exact ⟨_, (true), rs_, H', ⟨by first | omega | exact Nat.le_refl _⟩, ⟨bk_ BK101.out⟩, ⟨bk_ BK102.out⟩, ⟨be2_ HB.out GE101.out GE102.out⟩⟩
    ·replace c11 := Bool.eq_false_iff.mpr c11
     subst c11
     rw [if_neg nft_] at H
     obtain ⟨t106, A17, H⟩ := ob_ H
     have H' := Aside0.mk H
     clear H
     have hnb18 := NB102_101.out
     have hnc18 := NB101_102.out
     obtain ⟨hcz19_0, hcz19_1, hcz19_2, hcz19_3, hcz19_4, hfz19_0, hfz19_1, hfz19_2, hfz19_3, hfz19_4⟩ := d5_ BK102
     go_wp2_with (first | ((with_reducible refine gate_callee (f := 81) rfl ?_); refine gl_ (some 7) rfl rfl Try.func81 #[.string a1_0] ?_; (with_reducible refine (impl_isName.calls k a1_0 true _ A6.out).mono ?_); rintro e w' ⟨rfl, ⟨nd, rfl⟩⟩; refine ⟨_, rfl, ?_⟩) | (go_at_call 62; (with_reducible refine (impl_RxOk.calls k _ _ l1_1 true _ ?side1 ?side2 A8.out).mono ?_); (case side1 => repeat (first | exact (Kd.C_below HR1_1.out (be2_ HB.out GE101.out GE102.out)) | (with_reducible refine Kd.C_alloc ?_ _) | (with_reducible refine Kd.C_drewN ?_ _) | (with_reducible refine Kd.C_drew ?_))); (case side2 => exact HC1_1.out); rintro e w20 ⟨rfl, hb⟩; replace BK101 := lb_ BK101 hb; replace BK102 := lb_ BK102 hb; replace HB := sb2_ HB GE101 GE102 hb; (try clear hb); obtain ⟨hcz21_0, hcz21_1, hcz21_2, hcz21_3, hcz21_4, hfz21_0, hfz21_1, hfz21_2, hfz21_3, hfz21_4⟩ := d5_ BK102) | (go_at_call 18; (with_reducible refine (impl_Nullable.calls k _ _ l1_1 false _ ?side1 ?side2 A10.out).mono ?_); (case side1 => exact Kd.C_below HR1_1.out (be_ HB.out)); (case side2 => exact HC1_1.out); rintro e w22 ⟨rfl, hb⟩; replace BK101 := lb_ BK101 hb; replace BK102 := lb_ BK102 hb; replace HB := sb2_ HB GE101 GE102 hb; (try clear hb); obtain ⟨hcz23_0, hcz23_1, hcz23_2, hcz23_3, hcz23_4, hfz23_0, hfz23_1, hfz23_2, hfz23_3, hfz23_4⟩ := d5_ BK102) | (go_at_call 79; (with_reducible refine (impl_within.calls a1_3 0 3 t106 _ A17.out).mono ?_); rintro e w' ⟨rfl, ⟨nd, rfl⟩⟩))
     go_meet
     case rel => exact ⟨_, (!t106), rs_, H', ⟨by first | omega | exact Nat.le_refl _⟩, ⟨bk_ BK101.out⟩, ⟨bk_ BK102.out⟩, ⟨be2_ HB.out GE101.out GE102.out⟩⟩
   ·replace c9 := Bool.eq_false_iff.mpr c9
    subst c9
    rw [if_neg nft_] at H
    have H' := Aside0.mk H
    clear H
    have hnb24 := NB102_101.out
    have hnc24 := NB101_102.out
    obtain ⟨hcz25_0, hcz25_1, hcz25_2, hcz25_3, hcz25_4, hfz25_0, hfz25_1, hfz25_2, hfz25_3, hfz25_4⟩ := d5_ BK102
    go_wp2_with (first | ((with_reducible refine gate_callee (f := 81) rfl ?_); refine gl_ (some 7) rfl rfl Try.func81 #[.string a1_0] ?_; (with_reducible refine (impl_isName.calls k a1_0 true _ A6.out).mono ?_); rintro e w' ⟨rfl, ⟨nd, rfl⟩⟩; refine ⟨_, rfl, ?_⟩) | (go_at_call 62; (with_reducible refine (impl_RxOk.calls k _ _ l1_1 false _ ?side1 ?side2 A8.out).mono ?_); (case side1 => repeat (first | exact (Kd.C_below HR1_1.out (be2_ HB.out GE101.out GE102.out)) | (with_reducible refine Kd.C_alloc ?_ _) | (with_reducible refine Kd.C_drewN ?_ _) | (with_reducible refine Kd.C_drew ?_))); (case side2 => exact HC1_1.out); rintro e w26 ⟨rfl, hb⟩; replace BK101 := lb_ BK101 hb; replace BK102 := lb_ BK102 hb; replace HB := sb2_ HB GE101 GE102 hb; (try clear hb)))
    go_meet
    case rel => exact ⟨_, (true), rs_, H', ⟨by first | omega | exact Nat.le_refl _⟩, ⟨bk_ BK101.out⟩, ⟨bk_ BK102.out⟩, ⟨be2_ HB.out GE101.out GE102.out⟩⟩
  ·replace c7 := Bool.eq_false_iff.mpr c7
   subst c7
   rw [if_neg nft_] at H
   have H' := Aside0.mk H
   clear H
   have hnb27 := NB102_101.out
   have hnc27 := NB101_102.out
   obtain ⟨hcz28_0, hcz28_1, hcz28_2, hcz28_3, hcz28_4, hfz28_0, hfz28_1, hfz28_2, hfz28_3, hfz28_4⟩ := d5_ BK102
   go_wp2_with (first | ((with_reducible refine gate_callee (f := 81) rfl ?_); refine gl_ (some 7) rfl rfl Try.func81 #[.string a1_0] ?_; (with_reducible refine (impl_isName.calls k a1_0 false _ A6.out).mono ?_); rintro e w' ⟨rfl, ⟨nd, rfl⟩⟩; refine ⟨_, rfl, ?_⟩))
   go_meet
   case rel => exact ⟨_, (true), rs_, H', ⟨by first | omega | exact Nat.le_refl _⟩, ⟨bk_ BK101.out⟩, ⟨bk_ BK102.out⟩, ⟨be2_ HB.out GE101.out GE102.out⟩⟩
 case rest =>
  clear HC3
  try clear c7
  try clear c9
  try clear c11
  try clear hcz13_0
  try clear hcz13_1
  try clear hcz13_2
  try clear hcz13_3
  try clear hcz13_4
  try clear hcz15_0
  try clear hcz15_1
  try clear hcz15_2
  try clear hcz15_3
  try clear hcz15_4
  try clear hcz19_0
  try clear hcz19_1
  try clear hcz19_2
  try clear hcz19_3
  try clear hcz19_4
  try clear hcz21_0
  try clear hcz21_1
  try clear hcz21_2
  try clear hcz21_3
  try clear hcz21_4
  try clear hcz23_0
  try clear hcz23_1
  try clear hcz23_2
  try clear hcz23_3
  try clear hcz23_4
  try clear hcz25_0
  try clear hcz25_1
  try clear hcz25_2
  try clear hcz25_3
  try clear hcz25_4
  try clear hcz28_0
  try clear hcz28_1
  try clear hcz28_2
  try clear hcz28_3
  try clear hcz28_4
  try clear hfz13_0
  try clear hfz13_1
  try clear hfz13_2
  try clear hfz13_3
  try clear hfz13_4
  try clear hfz15_0
  try clear hfz15_1
  try clear hfz15_2
  try clear hfz15_3
  try clear hfz15_4
  try clear hfz19_0
  try clear hfz19_1
  try clear hfz19_2
  try clear hfz19_3
  try clear hfz19_4
  try clear hfz21_0
  try clear hfz21_1
  try clear hfz21_2
  try clear hfz21_3
  try clear hfz21_4
  try clear hfz23_0
  try clear hfz23_1
  try clear hfz23_2
  try clear hfz23_3
  try clear hfz23_4
  try clear hfz25_0
  try clear hfz25_1
  try clear hfz25_2
  try clear hfz25_3
  try clear hfz25_4
  try clear hfz28_0
  try clear hfz28_1
  try clear hfz28_2
  try clear hfz28_3
  try clear hfz28_4
  obtain ⟨kq, x25_2, rfl, HA, HJ2, BK101, BK102, HB⟩ := hcut
  cases kq with
  | zero => exact absurd HA.out (by simp [impl_ruleOk.j0])
  | succ kj2 =>
   have H := HA.out
   clear HA
   simp only [impl_ruleOk.j0] at H
   by_cases c29 : x25_2 = true
   ·subst c29
    rw [if_pos rfl] at H
    obtain rfl := Option.some.inj H
    go_wp2
    go_ret
    exact ⟨rt_, be2_ HB.out GE101.out GE102.out⟩
   ·replace c29 := Bool.eq_false_iff.mpr c29
    subst c29
    rw [if_neg nft_] at H
    obtain ⟨t107, A30, H⟩ := ob_ H
    by_cases c31 : t107 = true
    ·subst c31
     rw [if_pos rfl] at H
     obtain ⟨t108, A32, H⟩ := ob_ H
     obtain rfl := Option.some.inj H
     have hnb33 := NB102_101.out
     have hnc33 := NB101_102.out
     obtain ⟨hcz34_0, hcz34_1, hcz34_2, hcz34_3, hcz34_4, hfz34_0, hfz34_1, hfz34_2, hfz34_3, hfz34_4⟩ := d5_ BK102
     go_wp2_with (first | ((with_reducible refine gate_callee (f := 95) rfl ?_); refine gl_ (some 27) rfl rfl Try.func95 #[.agg #[.string a1_0, .slice A1_1 l1_1.length c1_1, .bool a1_2, .int .i64 a1_3, .string a1_4]] ?_; (with_reducible refine (impl_Rule_hasTarget.calls a1_0 _ _ l1_1 a1_2 a1_3 a1_4 true _ ?side1 ?side2 A30.out).mono ?_); (case side1 => exact Kd.C_below HR1_1.out (be_ HB.out)); (case side2 => exact HC1_1.out); rintro e w35 ⟨rfl, hb⟩; refine ⟨_, rfl, ?_⟩; replace BK101 := lb_ BK101 hb; replace BK102 := lb_ BK102 hb; replace HB := sb2_ HB GE101 GE102 hb; (try clear hb); obtain ⟨hcz36_0, hfz36_0⟩ := d1_ BK101; obtain ⟨hcz37_0, hcz37_1, hcz37_2, hcz37_3, hcz37_4, hfz37_0, hfz37_1, hfz37_2, hfz37_3, hfz37_4⟩ := d5_ BK102) | ((with_reducible refine gate_callee (f := 82) rfl ?_); refine gl_ (some 31) rfl rfl Try.func82 #[.agg #[.slice A0_0 l0_0.length c0_0], .string a1_4] ?_; (with_reducible refine (impl_ModeAt.calls _ _ l0_0 a1_4 t108 _ ?side1 ?side2 A32.out).mono ?_); (case side1 => exact Kd.C_below HR0_0.out (be_ HB.out)); (case side2 => exact HC0_0.out); rintro e w38 ⟨rfl, hb⟩; refine ⟨_, rfl, ?_⟩; replace BK101 := lb_ BK101 hb; replace BK102 := lb_ BK102 hb; replace HB := sb2_ HB GE101 GE102 hb; (try clear hb)))
     go_ret
     exact ⟨rt_, be2_ HB.out GE101.out GE102.out⟩
    ·replace c31 := Bool.eq_false_iff.mpr c31
     subst c31
     rw [if_neg nft_] at H
     obtain rfl := Option.some.inj H
     have hnb39 := NB102_101.out
     have hnc39 := NB101_102.out
     obtain ⟨hcz40_0, hcz40_1, hcz40_2, hcz40_3, hcz40_4, hfz40_0, hfz40_1, hfz40_2, hfz40_3, hfz40_4⟩ := d5_ BK102
     go_wp2_with (first | ((with_reducible refine gate_callee (f := 95) rfl ?_); refine gl_ (some 27) rfl rfl Try.func95 #[.agg #[.string a1_0, .slice A1_1 l1_1.length c1_1, .bool a1_2, .int .i64 a1_3, .string a1_4]] ?_; (with_reducible refine (impl_Rule_hasTarget.calls a1_0 _ _ l1_1 a1_2 a1_3 a1_4 false _ ?side1 ?side2 A30.out).mono ?_); (case side1 => exact Kd.C_below HR1_1.out (be_ HB.out)); (case side2 => exact HC1_1.out); rintro e w41 ⟨rfl, hb⟩; refine ⟨_, rfl, ?_⟩; replace BK101 := lb_ BK101 hb; replace BK102 := lb_ BK102 hb; replace HB := sb2_ HB GE101 GE102 hb; (try clear hb); obtain ⟨hcz42_0, hcz42_1, hcz42_2, hcz42_3, hcz42_4, hfz42_0, hfz42_1, hfz42_2, hfz42_3, hfz42_4⟩ := d5_ BK102))
     go_ret
     exact ⟨rt_, be2_ HB.out GE101.out GE102.out⟩
end Go.Proofs.Ytijmhelacmjggaa.P
namespace Go.Proofs.Ytijmhelacmjggaa.P
open Go.RowKit Go.Proofs.YtijmhelacmjggaaW.PrintWords Go.Proofs.YtijmhelacmjggaaW.PrintLast Go.Proofs.YtijmhelacmjggaaEv
set_option linter.unusedVariables false
set_option linter.unusedSimpArgs false
def okB (i : Nat) (b : Int) : Bool := decide (97 ≤ b ∧ b ≤ 122) || (decide (i ≠ 0) && decide (48 ≤ b ∧ b ≤ 57))
def okS (b : Int) : Bool := decide (97 ≤ b ∧ b ≤ 122) || decide (48 ≤ b ∧ b ≤ 57)
def nameB (s : ByteArray) : Bool := (List.range s.size).all (fun i => okB i (bt s (i : Int))) && decide (1 ≤ s.size ∧ s.size ≤ 12)
theorem all_range (n : Nat) (p : Nat → Bool) (i : Nat) (h : i < n) : ((List.range n).drop i).all p = (p i && ((List.range n).drop (i + 1)).all p) := by
  rw [all_drop (List.range n) 0 p i (by simpa using h)]
  have : (List.range n).getD i 0 = i := by
    rw [List.getD_eq_getElem?_getD, List.getElem?_eq_getElem (by simpa using h)]
    simp
  rw [this]
theorem impl_isName_ev (s : ByteArray) (hs : s.size ≤ 1048576) : Ev (fun k => impl_isName.f k s) (nameB s) := by
  unfold impl_isName.f nameB
  refine ev_congr (ev_loop s.size (fun k i => impl_isName.l0 k s (s.size : Int) (i : Nat)) (fun i => ((List.range s.size).drop i).all (fun j => okB j (bt s (j : Int))) && decide (1 ≤ s.size ∧ s.size ≤ 12)) ?_ ?_ 0 (by omega)) (by simp)
  · rw [ev_succ]
    simp only [impl_isName.l0, impl_length.f, impl_within_eq, Option.bind_some, ev_ite]
    rw [if_neg (by omega)]
    refine ev_some.2 ?_
    rw [List.drop_eq_nil_of_le (by simp)]
    simp only [List.all_nil, Bool.true_and]
    exact decide_eq_decide.2 (by omega)
  · intro i hi ih
    rw [ev_succ, all_range _ _ _ hi]
    simp only [impl_isName.l0, ev_ite]
    rw [if_pos (by omega), if_pos (by omega), if_pos (by omega), wrap_succ hi (by omega)]
    generalize bt s (i : Int) = b at *
    by_cases c : 97 ≤ b ∧ b ≤ 122
    · rw [if_pos (by omega), if_pos (by omega)]
      have : okB i b = true := by simp [okB, c]
      rw [this, Bool.true_and]
      exact ih
    · have e1 : okB i b = (decide (i ≠ 0) && decide (48 ≤ b ∧ b ≤ 57)) := by simp [okB, decide_eq_false c]
      rw [e1]
      by_cases c0 : i = 0
      · have e2 : (decide (i ≠ 0) && decide (48 ≤ b ∧ b ≤ 57)) = false := by simp [c0]
        rw [e2]
        split
        · rw [if_neg (by omega)]
          rw [if_pos (by omega)]
          exact ev_some.2 (by simp)
        · rw [if_pos (by omega)]
          exact ev_some.2 (by simp)
      · by_cases c1 : 48 ≤ b ∧ b ≤ 57
        · have e2 : (decide (i ≠ 0) && decide (48 ≤ b ∧ b ≤ 57)) = true := by simp [c0, c1]
          rw [e2, Bool.true_and]
          split
          · rw [if_neg (by omega), if_neg (by omega), if_neg (by omega), if_neg (by omega)]
            exact ih
          · rw [if_neg (by omega), if_neg (by omega), if_neg (by omega)]
            exact ih
        · have e2 : (decide (i ≠ 0) && decide (48 ≤ b ∧ b ≤ 57)) = false := by simp [decide_eq_false c1]
          rw [e2]
          repeat' split
          all_goals first | exact ev_some.2 (by simp) | (exfalso; omega)
theorem spec_l1Digit_eq (b : Int) : spec_l1Digit.f b = some (decide (48 ≤ b ∧ b ≤ 57)) := by
  unfold spec_l1Digit.f
  by_cases h : b ≥ 48 <;> simp [h]
theorem nameB_split (s : ByteArray) (h : 0 < s.size) (hd : ¬ (48 ≤ bt s 0 ∧ bt s 0 ≤ 57)) : (List.range s.size).all (fun i => okB i (bt s (i : Int))) = (List.range s.size).all (fun i => okS (bt s (i : Int))) := by
  rw [Bool.eq_iff_iff, List.all_eq_true, List.all_eq_true]
  have hb : ∀ i, okB i (bt s (i : Int)) = okS (bt s (i : Int)) := by
    intro i
    unfold okB okS
    by_cases h0 : i = 0
    · subst h0
      have e : decide (48 ≤ bt s ((0 : Nat) : Int) ∧ bt s ((0 : Nat) : Int) ≤ 57) = false := decide_eq_false hd
      rw [e]
      simp
    · simp [h0]
  constructor
  · intro h i hi
    rw [← hb]
    exact h i hi
  · intro h i hi
    rw [hb]
    exact h i hi
theorem spec_l1Name_ev (s : ByteArray) : Ev (fun k => spec_l1Name.f k s) (nameB s) := by
  unfold spec_l1Name.f
  simp only [ev_ite]
  by_cases c1 : (s.size : Int) < 1
  · rw [if_pos c1, ev_succ]
    simp only [spec_l1Name.j0, if_true]
    exact ev_some.2 (by simp [nameB]; omega)
  by_cases c2 : (s.size : Int) > 12
  · rw [if_neg c1, if_pos c2, ev_succ]
    simp only [spec_l1Name.j0, if_true]
    exact ev_some.2 (by simp [nameB]; omega)
  rw [if_neg c1, if_neg c2, if_pos (by omega)]
  simp only [spec_l1Digit_eq, Option.bind_some]
  by_cases c3 : 48 ≤ bt s 0 ∧ bt s 0 ≤ 57
  · rw [decide_eq_true c3, ev_succ]
    simp only [spec_l1Name.j0, if_true]
    refine ev_some.2 ?_
    symm
    rw [nameB, Bool.and_eq_false_iff]
    left
    rw [← List.drop_zero (l := List.range s.size), all_range _ _ 0 (by omega)]
    have : okB 0 (bt s ((0 : Nat) : Int)) = false := by
      simp only [okB]
      rw [decide_eq_false (by show ¬ (97 ≤ bt s 0 ∧ bt s 0 ≤ 122); omega)]
      simp
    rw [this, Bool.false_and]
  · rw [decide_eq_false c3, ev_succ]
    simp only [spec_l1Name.j0, Bool.false_eq_true, if_false]
    rw [nameB, nameB_split s (by omega) c3, decide_eq_true (by omega), Bool.and_true]
    refine ev_congr (ev_loop s.size (fun k i => spec_l1Name.l0 k s (i : Nat)) (fun i => ((List.range s.size).drop i).all (fun j => okS (bt s (j : Int)))) ?_ ?_ 0 (by omega)) (by simp)
    · rw [ev_succ]
      simp only [spec_l1Name.l0, ev_ite]
      rw [if_neg (by omega)]
      refine ev_some.2 ?_
      rw [List.drop_eq_nil_of_le (by simp)]
      simp
    · intro i hi ih
      rw [ev_succ, all_range _ _ _ hi]
      simp only [spec_l1Name.l0, spec_l1Digit_eq, Option.bind_some, ev_ite]
      rw [if_pos (by omega), if_pos (by omega), wrap_succ hi (by omega)]
      generalize bt s (i : Int) = b at *
      by_cases c : 48 ≤ b ∧ b ≤ 57
      · rw [if_pos (decide_eq_true c), show okS b = true by simp [okS, c], Bool.true_and]
        exact ih
      · rw [if_neg (by simpa using c)]
        by_cases c4 : b < 97
        · rw [if_pos c4, show okS b = false by simp only [okS]; rw [decide_eq_false c, decide_eq_false (by omega)]; rfl]
          exact ev_some.2 (by simp)
        · rw [if_neg c4]
          by_cases c5 : b > 122
          · rw [if_pos c5, show okS b = false by simp only [okS]; rw [decide_eq_false c, decide_eq_false (by omega)]; rfl]
            exact ev_some.2 (by simp)
          · rw [if_neg c5, show okS b = true by simp only [okS]; rw [decide_eq_true (show 97 ≤ b ∧ b ≤ 122 by omega)]; rfl, Bool.true_and]
            exact ih
theorem spec_ModeAt_ev (l : List S108) (nm : ByteArray) (hl : l.length ≤ 9223372036854775807) : Ev (fun k => spec_ModeAt.f k l nm) (modeAtP l nm) := by
  unfold spec_ModeAt.f modeAtP
  refine ev_congr (ev_loop l.length (fun k i => spec_ModeAt.l0 k nm (i : Nat) l) (fun i => idxP (named nm) (l.drop i) (i : Nat)) ?_ ?_ 0 (by omega)) (by simp)
  · rw [ev_succ]
    simp only [spec_ModeAt.l0, ev_ite]
    rw [if_neg (by omega)]
    exact ev_some.2 (by simp [idxP])
  · intro i hi ih
    rw [ev_succ]
    simp only [spec_ModeAt.l0, ev_ite]
    rw [if_pos (by omega), if_pos (by omega), wrap_succ hi (by omega), drop_cons l z108 i hi]
    have hr : l.getD i z108 = rd_T108 l i := by simp [rd_T108]
    rw [hr]
    unfold idxP named
    by_cases c : (rd_T108 l i).f0.toList = nm.toList
    · rw [if_pos c, if_pos (by simpa using c)]
      exact ev_some.2 rfl
    · rw [if_neg c, if_neg (by simpa using c)]
      exact ih
/-- Has a rule the target that its action asks for? -/
def targetB (g : List S108) (x : S113) : Bool := if x.f3 = 1 then decide (modeAtP g x.f4 ≥ 0) else if x.f3 = 2 then decide (modeAtP g x.f4 ≥ 0) else x.f4.toList == ([] : List UInt8)
def ruleB (g : List S108) (x : S113) : Bool := nameB x.f0 && (rxB x.f1.f0 && (!(rxB x.f1.f0 && nullE x.f1.f0 (x.f1.f0.length - 1)) && (decide (0 ≤ x.f3 ∧ x.f3 ≤ 3) && targetB g x)))
/-- What a rule has no more of than a law draws. -/
def smallR (x : S113) : Prop := x.f0.size ≤ 1048576 ∧ x.f1.f0.length ≤ 1048576 ∧ ∀ y ∈ x.f1.f0, y.f2.length ≤ 9223372036854775807
def smallM (m : S108) : Prop := m.f0.size ≤ 1048576 ∧ m.f1.length ≤ 1048576 ∧ ∀ x ∈ m.f1, smallR x
def smallG (g : List S108) : Prop := g.length ≤ 1048576 ∧ ∀ m ∈ g, smallM m
theorem impl_ruleOk_ev (g : List S108) (x : S113) (hx : smallR x) : Ev (fun k => impl_ruleOk.f k g x.f0 x.f1.f0 x.f2 x.f3 x.f4) (ruleB g x) := by
  have hj : ∀ b : Bool, Ev (fun k => impl_ruleOk.j0 k b g x.f0 x.f1.f0 x.f2 x.f3 x.f4) (!b && targetB g x) := by
    intro b
    rw [ev_succ]
    cases b
    · simp only [impl_ruleOk.j0, impl_Rule_hasTarget.f, impl_ModeAt.f, Bool.false_eq_true, if_false]
      unfold targetB
      by_cases c1 : x.f3 = 1
      · simp only [if_pos c1, Option.bind_some, if_true]
        exact ev_some.2 (by simp)
      · simp only [if_neg c1, Option.bind_some]
        by_cases c2 : x.f3 = 2
        · simp only [c2, beq_self_eq_true, if_true, Option.bind_some]
          exact ev_some.2 (by simp)
        · rw [if_neg (by simpa using c2), if_neg c2]
          exact ev_some.2 (by simp)
    · simp only [impl_ruleOk.j0, if_true]
      exact ev_some.2 (by simp)
  unfold impl_ruleOk.f ruleB
  rw [ev_bind (impl_isName_ev x.f0 hx.1)]
  cases nameB x.f0
  · simp only [Bool.false_eq_true, if_false]
    exact hj true
  simp only [if_true]
  rw [ev_bind (impl_RxOk_ev x.f1.f0 hx.2.1)]
  cases hr : rxB x.f1.f0
  · simp only [Bool.false_eq_true, if_false]
    exact hj true
  simp only [if_true]
  rw [ev_bind (impl_Nullable_ev x.f1.f0 hx.2.1), hr]
  cases nullE x.f1.f0 (x.f1.f0.length - 1)
  · simp only [Bool.and_false, Bool.false_eq_true, if_false, impl_within_eq, Option.bind_some]
    refine ev_congr (hj _) ?_
    simp
  · simp only [Bool.and_true, if_true]
    exact hj true
theorem spec_l5Rule_ev (g : List S108) (hg : g.length ≤ 9223372036854775807) (x : S113) (hx : smallR x) : Ev (fun k => spec_l5Rule.f k g x.f0 x.f1.f0 x.f2 x.f3 x.f4) (ruleB g x) := by
  have hj : ∀ b : Bool, Ev (fun k => spec_l5Rule.j0 k b g x.f0 x.f1.f0 x.f2 x.f3 x.f4) (!b && targetB g x) := by
    intro b
    rw [ev_succ]
    cases b
    · simp only [spec_l5Rule.j0, Bool.false_eq_true, if_false]
      unfold targetB
      by_cases c1 : x.f3 = 1
      · simp only [if_pos c1]
        rw [ev_bind (spec_ModeAt_ev g x.f4 hg)]
        exact ev_some.2 (by simp)
      · simp only [if_neg c1]
        by_cases c2 : x.f3 = 2
        · simp only [if_pos c2]
          rw [ev_bind (spec_ModeAt_ev g x.f4 hg)]
          exact ev_some.2 (by simp)
        · simp only [if_neg c2]
          exact ev_some.2 (by simp)
    · simp only [spec_l5Rule.j0, if_true]
      exact ev_some.2 (by simp)
  have hn : spec_Nullable.f x.f1.f0 = some (rxB x.f1.f0 && nullE x.f1.f0 (x.f1.f0.length - 1)) := if_pos hx.2.1
  unfold spec_l5Rule.f ruleB
  rw [ev_bind (spec_l1Name_ev x.f0)]
  cases nameB x.f0
  · simp only [Bool.false_eq_true, if_false]
    exact hj true
  simp only [if_true]
  rw [ev_bind (spec_RxOk_ev x.f1.f0 hx.2.1 hx.2.2)]
  simp only [hn]
  cases rxB x.f1.f0
  · simp only [Bool.false_eq_true, if_false]
    exact hj true
  simp only [if_true, Option.bind_some]
  cases nullE x.f1.f0 (x.f1.f0.length - 1)
  · simp only [Bool.and_false, Bool.false_eq_true, if_false, spec_l1In_eq, Option.bind_some]
    refine ev_congr (hj _) ?_
    simp
  · simp only [Bool.and_true, if_true]
    exact hj true
/-- Is a mode right at its place? -/
def modeB (g : List S108) (i : Nat) (m : S108) : Bool := nameB m.f0 && (decide (modeAtP g m.f0 = (i : Int)) && (decide (1 ≤ m.f1.length ∧ m.f1.length ≤ 40) && m.f1.all (ruleB g)))
/-- Are the modes right from a place on? -/
def modesB (g : List S108) (i : Nat) : Bool := ((List.range g.length).drop i).all fun j => modeB g j (rd_T108 g (j : Int))
def grammarB (g : List S108) : Bool := decide (1 ≤ g.length ∧ g.length ≤ 12) && modesB g 0
theorem modesB_step (g : List S108) (i : Nat) (h : i < g.length) : modesB g i = (modeB g i (rd_T108 g (i : Int)) && modesB g (i + 1)) := all_range _ _ _ h
theorem modesB_end (g : List S108) : modesB g g.length = true := by
  unfold modesB
  rw [List.drop_eq_nil_of_le (by simp)]
  rfl
theorem rd_mode_mem (g : List S108) (i : Nat) (h : i < g.length) : rd_T108 g (i : Int) ∈ g := by
  unfold rd_T108
  rw [List.getD_eq_getElem?_getD, List.getElem?_eq_getElem (by simpa using h)]
  exact List.getElem_mem _
theorem rd_rule_mem (l : List S113) (i : Nat) (h : i < l.length) : rd_T113 l (i : Int) ∈ l := by
  unfold rd_T113
  rw [List.getD_eq_getElem?_getD, List.getElem?_eq_getElem (by simpa using h)]
  exact List.getElem_mem _
theorem spec_GrammarOk_l1 (g : List S108) (hg : smallG g) (i : Nat) (nm : ByteArray) (rs : List S113) (hrs : ∀ x ∈ rs, smallR x) (hl : rs.length ≤ 1048576) (R : Bool) (hi : i < g.length) (ih : Ev (fun k => spec_GrammarOk.l0 k ((i + 1 : Nat) : Int) g) R) : Ev (fun k => spec_GrammarOk.l1 k (i : Int) 0 g nm rs) (rs.all (ruleB g) && R) := by
  have hgl := hg.1
  refine ev_congr (ev_loop rs.length (fun k j => spec_GrammarOk.l1 k (i : Int) (j : Nat) g nm rs) (fun j => (rs.drop j).all (ruleB g) && R) ?_ ?_ 0 (by omega)) (by simp)
  · rw [ev_succ]
    simp only [spec_GrammarOk.l1, ev_ite]
    rw [if_neg (by omega), wrap_succ hi (by omega), List.drop_length]
    simpa using ih
  · intro j hj ihj
    rw [ev_succ, all_drop rs z113 (ruleB g) j hj]
    have hr : rs.getD j z113 = rd_T113 rs j := by simp [rd_T113]
    rw [hr]
    simp only [spec_GrammarOk.l1, ev_ite]
    rw [if_pos (by omega), if_pos (by omega), wrap_succ hj (by omega), ev_bind (spec_l5Rule_ev g (by omega) (rd_T113 rs j) (hrs _ (rd_rule_mem rs j hj)))]
    cases ruleB g (rd_T113 rs j)
    · exact ev_some.2 (by simp)
    · simp only [if_true, Bool.true_and]
      exact ihj
theorem spec_GrammarOk_ev (g : List S108) (hg : smallG g) : Ev (fun k => spec_GrammarOk.f k g) (grammarB g) := by
  have hgl := hg.1
  have h0 : Ev (fun k => spec_GrammarOk.l0 k 0 g) (modesB g 0) := by
    refine ev_loop g.length (fun k i => spec_GrammarOk.l0 k (i : Nat) g) (fun i => modesB g i) ?_ ?_ 0 (by omega)
    · rw [ev_succ, modesB_end]
      simp only [spec_GrammarOk.l0, ev_ite]
      rw [if_neg (by omega)]
      exact ev_some.2 rfl
    · intro i hi ih
      rw [ev_succ, modesB_step g i hi]
      simp only [spec_GrammarOk.l0, ev_ite]
      rw [if_pos (by omega), if_pos (by omega)]
      have hm := hg.2 _ (rd_mode_mem g i hi)
      have hj : ∀ b : Bool, Ev (fun k => spec_GrammarOk.j2 k (i : Int) b g (rd_T108 g i).f0 (rd_T108 g i).f1) (!b && ((rd_T108 g i).f1.all (ruleB g) && modesB g (i + 1))) := by
        intro b
        rw [ev_succ]
        cases b
        · simp only [spec_GrammarOk.j2, Bool.false_eq_true, if_false]
          simpa using spec_GrammarOk_l1 g hg i _ _ hm.2.2 hm.2.1 _ hi ih
        · simp only [spec_GrammarOk.j2, if_true]
          exact ev_some.2 (by simp)
      unfold modeB
      generalize rd_T108 g (i : Int) = m at *
      rw [ev_bind (spec_l1Name_ev m.f0)]
      cases nameB m.f0
      · simp only [Bool.false_eq_true, if_false, Bool.false_and]
        exact hj true
      simp only [if_true, Bool.true_and]
      rw [ev_bind (spec_ModeAt_ev g m.f0 (by omega))]
      simp only [ev_ite]
      by_cases c1 : modeAtP g m.f0 = (i : Int)
      · rw [if_pos c1, decide_eq_true c1, Bool.true_and]
        by_cases c2 : (m.f1.length : Int) < 1
        · rw [if_pos c2, decide_eq_false (by omega)]
          exact hj true
        · rw [if_neg c2]
          refine ev_congr (hj _) ?_
          by_cases c3 : (m.f1.length : Int) > 40
          · rw [decide_eq_true c3, decide_eq_false (by omega)]
            rfl
          · rw [decide_eq_false c3, decide_eq_true (by omega)]
            rfl
      · rw [if_neg c1, decide_eq_false c1]
        exact hj true
  have hj : ∀ b : Bool, Ev (fun k => spec_GrammarOk.j0 k b g) (!b && modesB g 0) := by
    intro b
    rw [ev_succ]
    cases b
    · simp only [spec_GrammarOk.j0, Bool.false_eq_true, if_false]
      simpa using h0
    · simp only [spec_GrammarOk.j0, if_true]
      exact ev_some.2 (by simp)
  unfold spec_GrammarOk.f grammarB
  simp only [ev_ite]
  by_cases c1 : (g.length : Int) < 1
  · rw [if_pos c1, decide_eq_false (by omega)]
    exact hj true
  · rw [if_neg c1]
    refine ev_congr (hj _) ?_
    by_cases c2 : (g.length : Int) > 12
    · rw [decide_eq_true c2, decide_eq_false (by omega)]
      rfl
    · rw [decide_eq_false c2, decide_eq_true (by omega)]
      rfl
end Go.Proofs.Ytijmhelacmjggaa.P
namespace Go.Proofs.Ytijmhelacmjggaa.P
open Go.RowKit Go.Proofs.YtijmhelacmjggaaW.PrintWords Go.Proofs.YtijmhelacmjggaaW.PrintLast Go.Proofs.YtijmhelacmjggaaW.PrintMore
attribute [local go_sem] max2_int min2_int max_two min_two max_three min_three max_four min_four
set_option linter.unusedVariables false
set_option linter.unusedSimpArgs false
/-! ### impl_Rule_83: function 83 -/
def impl_Rule_83.f (l0 : List (S113)) : Option (Int) := some (l0.length : Int)
set_option maxHeartbeats 8000000 in
set_option maxRecDepth 100000 in
theorem impl_Rule_83.calls (A0 : Option Addr) (c0 : Nat) (l0 : List (S113)) (r : Int) (w : World) (hr0 : Kd.C k113 w A0 l0.length l0) (hc0 : l0.length ≤ c0) (h : impl_Rule_83.f l0 = some r) :
  Calls Try.prog 83 #[.slice A0 l0.length c0] w fun e w' => e = .returned (.int .i64 r) ∧ Drawn0 w w' := by
 have HR0 := Aside0.mk hr0
 have HC0 := Aside0.mk hc0
 clear hr0 hc0
 have H : (some (l0.length : Int)) = some r := h
 clear h
 obtain rfl := Option.some.inj H
 go_enter Try.func83, Try.ntmps83
 go_wp2
 go_ret
 exact ⟨by first | rfl | (simp; done) | (simp [*]; done), by repeat (first | exact Drawn0.refl _ | apply Drawn0.step)⟩
end Go.Proofs.Ytijmhelacmjggaa.P
namespace Go.Proofs.Ytijmhelacmjggaa.P
open Go.RowKit Go.Shelf Go.Proofs.YtijmhelacmjggaaW.PrintWords Go.Proofs.YtijmhelacmjggaaW.PrintLast Go.Proofs.YtijmhelacmjggaaW.PrintMore Go.Proofs.YtijmhelacmjggaaEv
set_option linter.unusedVariables false
set_option linter.unusedSimpArgs false
set_option maxHeartbeats 4000000 in
theorem GrammarOk_1_calls (g : List S108) (x : S113) (A0 A1 : Option Addr) (c0 c1 B : Nat) (W : World) (hx : smallR x) (hB : W.heap[B]? = some (.cells #[.slice A0 g.length c0] 46)) (hr0 : Kd.C k108 W A0 g.length g) (hc0 : g.length ≤ c0) (hr1 : Kd.C k156 W A1 x.f1.f0.length x.f1.f0) (hc1 : x.f1.f0.length ≤ c1) :
    Calls Try.prog 85 (#[.agg #[.string x.f0, .slice A1 x.f1.f0.length c1, .bool x.f2, .int .i64 x.f3, .string x.f4]] ++ #[.pointer (some ⟨B, 0, none⟩)]) W fun e w' => e = .returned (.bool (!ruleB g x)) ∧ Below W.heap.size W w' := by
  obtain ⟨k, hk⟩ := ev_get (impl_ruleOk_ev g x hx)
  generalize ruleB g x = b at *
  have HK := Aside0.mk hk
  have hcell : W.cell? ⟨B, 0, none⟩ = some (.slice A0 g.length c0) := (blk_cell hB 0).trans rfl
  have hlt := blk_lt hB
  have hc2 : ∀ o, (W.alloc o).cell? ⟨B, 0, none⟩ = some (.slice A0 g.length c0) := fun o => ((below_alloc (Below.refl _ _) o : Below W.heap.size W _).cell hlt).trans hcell
  have hne : (B == W.heap.size) = false := beq_eq_false_iff_ne.mpr (by omega)
  have HB := Aside0.mk (below_alloc (Below.refl W.heap.size W) (.cells #[.string x.f0, .slice A1 x.f1.f0.length c1, .bool x.f2, .int .i64 x.f3, .string x.f4] 113))
  have HR0 := Aside0.mk (Kd.C_below hr0 HB.out)
  have HR1 := Aside0.mk (Kd.C_below hr1 HB.out)
  have HC0 := Aside0.mk hc0
  have HC1 := Aside0.mk hc1
  clear hk hr0 hr1 hc0 hc1 hx hB
  show Calls Try.prog _ #[.agg #[.string x.f0, .slice A1 x.f1.f0.length c1, .bool x.f2, .int .i64 x.f3, .string x.f4], .pointer (some ⟨B, 0, none⟩)] W _
  go_enter Try.func85, Try.ntmps85
  go_wp2_with (go_at_call 86; refine (impl_ruleOk.calls k A0 c0 g x.f0 A1 c1 x.f1.f0 x.f2 x.f3 x.f4 b _ HR0.out HC0.out HR1.out HC1.out HK.out).mono ?_; rintro e w' ⟨rfl, hb⟩)
  go_ret
  exact ⟨rfl, below_then HB.out HB.out.size hb⟩
theorem any_not_all {α : Type} (l : List α) (p : α → Bool) : (l.any fun x => !p x) = !l.all p := by
  induction l with
  | nil => rfl
  | cons a r ih => simp [ih, Bool.not_and]
/-- What ContainsFunc answers of a mode's rules, with the grammar held in memory. -/
theorem rules_calls (l0 : List S108) (rs : List S113) (A0 A1 : Option Addr) (c0 c1 g : Nat) (w W : World) (hrs : ∀ x ∈ rs, smallR x) (hr0 : Kd.C k108 w A0 l0.length l0) (hc0 : l0.length ≤ c0) (hr1 : Kd.C k113 w A1 rs.length rs) (hB : W.heap[g]? = some (.cells #[.slice A0 l0.length c0] 46)) (hb : Below w.heap.size w W) :
    Calls Try.prog 84 #[.slice A1 rs.length c1, .func (.func 85) #[] #[.pointer (some ⟨g, 0, none⟩)]] W fun e w' => e = .returned (.bool (!rs.all (ruleB l0))) ∧ Below W.heap.size W w' := by
  have eg : ∀ args w, (callFunc 85 args).run Try.prog w = .ok (.enter 85 args) w := enters_of Try.func85 (by kernel_rfl) rfl
  rw [← any_not_all]
  refine ContainsFunc_Rule _ _ eg (fun x => !ruleB l0 x) A1 c1 rs W (Kd.C_below hr1 hb) ?_
  intro W2 x A2 c2 hx hb2 hr2 hc2
  exact GrammarOk_1_calls l0 x A0 A2 c0 c2 g W2 (hrs x hx) (blk_below hB hb2) (Kd.C_below (Kd.C_below hr0 hb) hb2) hc0 hr2 hc2
set_option maxHeartbeats 16000000 in
set_option maxRecDepth 100000 in
theorem GrammarOk_hand (A0 : Option Addr) (c0 : Nat) (l0 : List S108) (w : World) (hg : smallG l0) (hr0 : Kd.C k108 w A0 l0.length l0) (hc0 : l0.length ≤ c0) :
    Calls Try.prog 28 #[.agg #[.slice A0 l0.length c0]] w fun e w' => e = .returned (.bool (grammarB l0)) ∧ Below w.heap.size w w' := by
  have HR := Aside0.mk hr0
  have HC := Aside0.mk hc0
  have HG := Aside0.mk hg
  have hn := hr0.2.1
  have hg1 := hg.1
  clear hr0 hc0 hg
  have HB := Aside0.mk (below_alloc (Below.refl w.heap.size w) (.cells #[.slice A0 l0.length c0] 46))
  have BK := Aside0.mk (blk_new w (.cells #[.slice A0 l0.length c0] 46))
  have HI := Aside0.mk (impl_within_eq (l0.length : Int) 1 12)
  have hgd : grammarB l0 = (decide (1 ≤ (l0.length : Int) ∧ (l0.length : Int) ≤ 12) && modesB l0 0) := by
    unfold grammarB
    congr 1
    exact decide_eq_decide.2 (by omega)
  cases hb1 : decide (1 ≤ (l0.length : Int) ∧ (l0.length : Int) ≤ 12)
  · rw [hb1] at HI hgd
    rw [hgd, Bool.false_and]
    clear hgd hb1
    go_enter Try.func28, Try.ntmps28
    go_wp2_with (first | (go_at_call 80; refine (impl_Mode_80.calls A0 c0 l0 _ _ (Kd.C_below HR.out HB.out) HC.out rfl).mono ?_; rintro e w' ⟨rfl, ⟨nd, rfl⟩⟩) | (go_at_call 79; refine (impl_within.calls _ _ _ false _ HI.out).mono ?_; rintro e w' ⟨rfl, ⟨nd2, rfl⟩⟩))
    go_ret
    exact ⟨rfl, by repeat (first | (with_reducible exact HB.out) | apply pw_below_drewN | apply below_drew1)⟩
  rw [hb1] at HI hgd
  rw [Bool.true_and] at hgd
  have HA0 := Aside0.mk hgd
  clear hgd hb1
  generalize hgB : grammarB l0 = gb at *
  clear hgB
  go_enter Try.func28, Try.ntmps28
  go_wp2_with (first | (go_at_call 80; refine (impl_Mode_80.calls A0 c0 l0 _ _ (Kd.C_below HR.out HB.out) HC.out rfl).mono ?_; rintro e w' ⟨rfl, ⟨nd, rfl⟩⟩) | (go_at_call 79; refine (impl_within.calls _ _ _ true _ HI.out).mono ?_; rintro e w' ⟨rfl, ⟨nd2, rfl⟩⟩))
  go_loopg [13] l0.length (fun gg s13 wr => ∃ kk : Nat, kk ≤ l0.length ∧ l0.length - kk ≤ gg ∧ s13 = .int .i64 kk ∧ Aside0 (gb = modesB l0 kk) ∧ Aside0 (wr.heap[w.heap.size]? = some (.cells #[.slice A0 l0.length c0] 46)) ∧ Aside0 (Below w.heap.size w wr))
  case atStart => exact ⟨0, Nat.zero_le _, by omega, rfl, HA0, ⟨BK.out⟩, ⟨by repeat (first | (with_reducible exact HB.out) | apply pw_below_drewN | apply below_drew1)⟩⟩
  case round =>
    clear HA0 HB BK
    obtain ⟨kk, hkk, hgg, rfl, HA, BK, HB⟩ := hrel
    by_cases hlt : kk < l0.length
    · have hltz : (kk : Int) < (l0.length : Int) := by omega
      have hk0 : (0 : Int) ≤ (kk : Int) := by omega
      obtain ⟨ad, A1, c1, e1, hx0, hx1, hl, hi⟩ := at_T108 HR.out (kk : Int) (by omega) hltz
      cases e1
      rw [Int.toNat_natCast] at hx0 hx1
      replace hx0 := mv_ HB.out hx0
      replace hx1 := mv_ HB.out hx1
      have hm := HG.out.2 _ (rd_mode_mem l0 kk hlt)
      have hs := HA.out.trans (modesB_step l0 kk hlt)
      unfold modeB at hs
      clear HA
      generalize rd_T108 l0 (kk : Int) = y at *
      have HI1 := Aside0.mk hi
      have HC1 := Aside0.mk hl
      obtain ⟨kn, hkn⟩ := ev_get (impl_isName_ev y.f0 hm.1)
      have HN := Aside0.mk hkn
      have HM := Aside0.mk hm
      have HS := Aside0.mk hs
      clear hi hl hkn hm hs
      have hcg : wr.cell? ⟨w.heap.size, 0, none⟩ = some (.slice (some ad) l0.length c0) := (blk_cell BK.out 0).trans rfl
      go_upto_region 6 with ((with_reducible refine gate_dst (N := 4) rfl ?_); refine box_event ?hg (N := 4) ?hd (cs := #[.string ⟨#[]⟩, .slice none 0 0]) (t := 108) ?hr ?_; (case hd => rfl); (case hg => rfl); (case hr => first | (go_simp; done) | (go_simp; rfl)); intro gm hgm w20 hbox hb; have n0_ := Aside0.mk (blk_below BK.out hb); have n1_ := Aside0.mk (below_step HB.out hb); have n2_ := Aside0.mk (show w.heap.size ≤ gm by rw [hgm]; exact below_size HB.out); have n3_ := Aside0.mk (show w.heap.size ≠ gm by rw [hgm]; exact Nat.ne_of_lt (blk_lt BK.out)); clear BK HB; have BK := n0_; have HB := n1_; have GE := n2_; have NE := n3_; have BKm := Aside0.mk hbox; clear n0_ n1_ n2_ n3_ hb hbox hgm; have hcz0 : w20.cell? ⟨gm, 0, none⟩ = some (.string ⟨#[]⟩) := (blk_cell BKm.out 0).trans rfl; have hcz1 : w20.cell? ⟨gm, 1, none⟩ = some (.slice none 0 0) := (blk_cell BKm.out 1).trans rfl; have hfz0 := blk_frozen BKm.out 0; have hfz1 := blk_frozen BKm.out 1)
      (try simp only [Act.put, List.setIfInBounds_toArray, List.set_cons_zero, List.set_cons_succ])
      have BM2 : Aside0 (((w20.setCell ⟨gm, 0, none⟩ (.string y.f0)).setCell ⟨gm, 1, none⟩ (.slice A1 y.f1.length c1)).heap[gm]? = some (.cells #[.string y.f0, .slice A1 y.f1.length c1] 108)) := ⟨blk_put (blk_put BKm.out 0 _ rfl) 1 _ rfl⟩
      have BK2 : Aside0 (((w20.setCell ⟨gm, 0, none⟩ (.string y.f0)).setCell ⟨gm, 1, none⟩ (.slice A1 y.f1.length c1)).heap[w.heap.size]? = some (.cells #[.slice (some ad) l0.length c0] 46)) := ⟨blk_far (blk_far BK.out NE.out _) NE.out _⟩
      have HB2 : Aside0 (Below w.heap.size w ((w20.setCell ⟨gm, 0, none⟩ (.string y.f0)).setCell ⟨gm, 1, none⟩ (.slice A1 y.f1.length c1))) := ⟨below_set (below_set HB.out GE.out) GE.out⟩
      clear BKm BK HB hcz0 hcz1 hfz0 hfz1 hx0 hx1 hcg
      generalize (w20.setCell ⟨gm, 0, none⟩ (.string y.f0)).setCell ⟨gm, 1, none⟩ (.slice A1 y.f1.length c1) = w3 at *
      have hc0m : w3.cell? ⟨gm, 0, none⟩ = some (.string y.f0) := (blk_cell BM2.out 0).trans rfl
      have hc1m : w3.cell? ⟨gm, 1, none⟩ = some (.slice A1 y.f1.length c1) := (blk_cell BM2.out 1).trans rfl
      have hcg : w3.cell? ⟨w.heap.size, 0, none⟩ = some (.slice (some ad) l0.length c0) := (blk_cell BK2.out 0).trans rfl
      cases hq1 : nameB y.f0
      · rw [hq1] at HN HS
        have hs2 : Aside0 (gb = false) := ⟨by rw [HS.out]; rfl⟩
        clear HS hq1
        go_wp2_with (go_at_call 81; refine (impl_isName.calls kn y.f0 false _ HN.out).mono ?_; rintro e w' ⟨rfl, ⟨nd3, rfl⟩⟩)
        go_ret
        exact ⟨by (rw [hs2.out]; try rfl), by repeat (first | (with_reducible exact HB2.out) | apply pw_below_drewN | apply below_drew1)⟩
      rw [hq1] at HN HS
      simp only [Bool.true_and] at HS
      clear hq1
      have hma : ∀ nd : Nat, Calls Try.prog 82 #[.agg #[.slice (some ad) l0.length c0], .string y.f0] (w3.drewN nd) fun e w' => e = .returned (.int .i64 (modeAtP l0 y.f0)) ∧ Below (w3.drewN nd).heap.size (w3.drewN nd) w' := fun nd => impl_ModeAt.calls (some ad) c0 l0 y.f0 _ _ (Kd.C_below HR.out (pw_below_drewN HB2.out nd)) HC.out rfl
      have HMA := Lib.hid hma
      clear hma
      generalize modeAtP l0 y.f0 = mm at *
      by_cases hq2 : mm = (kk : Int)
      · subst hq2
        have hne0 : ((kk : Int) != (kk : Int)) = false := by simp
        have HW := Aside0.mk (impl_within_eq (y.f1.length : Int) 1 40)
        have hd : decide (1 ≤ y.f1.length ∧ y.f1.length ≤ 40) = decide (1 ≤ (y.f1.length : Int) ∧ (y.f1.length : Int) ≤ 40) := decide_eq_decide.2 (by omega)
        rw [hd] at HS
        clear hd
        cases hq3 : decide (1 ≤ (y.f1.length : Int) ∧ (y.f1.length : Int) ≤ 40)
        · rw [hq3] at HS HW
          have hs2 : Aside0 (gb = false) := ⟨by rw [HS.out]; simp⟩
          clear HS hq3
          go_wp2_with (first | (go_at_call 81; refine (impl_isName.calls kn y.f0 true _ HN.out).mono ?_; rintro e w' ⟨rfl, ⟨nd3, rfl⟩⟩) | (go_at_call 82; refine (HMA.out nd3).mono ?_; rintro e w4 ⟨rfl, hb⟩; have HB4 := Aside0.mk (below_step (pw_below_drewN HB2.out nd3) hb); have hc4 : w4.cell? ⟨gm, 1, none⟩ = some (.slice A1 y.f1.length c1) := (blk_cell (blk_below (blk_drewN BM2.out nd3) hb) 1).trans rfl; clear hb) | (go_at_call 83; refine (impl_Rule_83.calls A1 c1 y.f1 _ _ (Kd.C_below HI1.out HB4.out) HC1.out rfl).mono ?_; rintro e w' ⟨rfl, ⟨nd4, rfl⟩⟩) | (go_at_call 79; refine (impl_within.calls _ _ _ false _ HW.out).mono ?_; rintro e w' ⟨rfl, ⟨nd5, rfl⟩⟩))
          go_ret
          exact ⟨by (rw [hs2.out]; try rfl), by repeat (first | (with_reducible exact HB4.out) | apply pw_below_drewN | apply below_drew1)⟩
        rw [hq3] at HS HW
        clear hq3
        have hs0 : Aside0 (gb = (y.f1.all (ruleB l0) && modesB l0 (kk + 1))) := ⟨by rw [HS.out]; simp⟩
        clear HS
        have hca : ∀ W : World, W.heap[w.heap.size]? = some (.cells #[.slice (some ad) l0.length c0] 46) → Below w.heap.size w W → Calls Try.prog 84 #[.slice A1 y.f1.length c1, .func (.func 85) #[] #[.pointer (some ⟨w.heap.size, 0, none⟩)]] W fun e w' => e = .returned (.bool (!y.f1.all (ruleB l0))) ∧ Below W.heap.size W w' := fun W h1 h2 => rules_calls l0 y.f1 (some ad) A1 c0 c1 _ w W HM.out.2.2 HR.out HC.out HI1.out h1 h2
        have HCA := Lib.hid hca
        clear hca
        cases hq4 : y.f1.all (ruleB l0)
        · rw [hq4] at hs0 HCA
          have hs2 : Aside0 (gb = false) := ⟨by rw [hs0.out]; rfl⟩
          clear hs0 hq4
          go_wp2_with (first | (go_at_call 81; refine (impl_isName.calls kn y.f0 true _ HN.out).mono ?_; rintro e w' ⟨rfl, ⟨nd3, rfl⟩⟩) | (go_at_call 82; refine (HMA.out nd3).mono ?_; rintro e w4 ⟨rfl, hb⟩; have HB4 := Aside0.mk (below_step (pw_below_drewN HB2.out nd3) hb); have BK4 := Aside0.mk (blk_below (blk_drewN BK2.out nd3) hb); have hc4 : w4.cell? ⟨gm, 1, none⟩ = some (.slice A1 y.f1.length c1) := (blk_cell (blk_below (blk_drewN BM2.out nd3) hb) 1).trans rfl; clear hb) | (go_at_call 83; refine (impl_Rule_83.calls A1 c1 y.f1 _ _ (Kd.C_below HI1.out HB4.out) HC1.out rfl).mono ?_; rintro e w' ⟨rfl, ⟨nd4, rfl⟩⟩) | (go_at_call 79; refine (impl_within.calls _ _ _ true _ HW.out).mono ?_; rintro e w' ⟨rfl, ⟨nd5, rfl⟩⟩) | (go_at_call 84; refine (HCA.out _ (blk_drewN BK4.out _) (pw_below_drewN HB4.out _)).mono ?_; rintro e w5 ⟨rfl, hb⟩; have HB5 := Aside0.mk (below_step (pw_below_drewN HB4.out _) hb); clear hb))
          go_ret
          exact ⟨by (rw [hs2.out]; try rfl), by repeat (first | (with_reducible exact HB5.out) | apply pw_below_drewN | apply below_drew1)⟩
        · rw [hq4] at hs0 HCA
          have hs2 : Aside0 (gb = modesB l0 (kk + 1)) := ⟨by rw [hs0.out]; rfl⟩
          clear hs0 hq4
          go_wp2_with (first | (go_at_call 81; refine (impl_isName.calls kn y.f0 true _ HN.out).mono ?_; rintro e w' ⟨rfl, ⟨nd3, rfl⟩⟩) | (go_at_call 82; refine (HMA.out nd3).mono ?_; rintro e w4 ⟨rfl, hb⟩; have HB4 := Aside0.mk (below_step (pw_below_drewN HB2.out nd3) hb); have BK4 := Aside0.mk (blk_below (blk_drewN BK2.out nd3) hb); have hc4 : w4.cell? ⟨gm, 1, none⟩ = some (.slice A1 y.f1.length c1) := (blk_cell (blk_below (blk_drewN BM2.out nd3) hb) 1).trans rfl; clear hb) | (go_at_call 83; refine (impl_Rule_83.calls A1 c1 y.f1 _ _ (Kd.C_below HI1.out HB4.out) HC1.out rfl).mono ?_; rintro e w' ⟨rfl, ⟨nd4, rfl⟩⟩) | (go_at_call 79; refine (impl_within.calls _ _ _ true _ HW.out).mono ?_; rintro e w' ⟨rfl, ⟨nd5, rfl⟩⟩) | (go_at_call 84; refine (HCA.out _ (blk_drewN BK4.out _) (pw_below_drewN HB4.out _)).mono ?_; rintro e w5 ⟨rfl, hb⟩; have BK5 := Aside0.mk (blk_below (blk_drewN BK4.out _) hb); have HB5 := Aside0.mk (below_step (pw_below_drewN HB4.out _) hb); clear hb))
          go_roundg (l0.length - (kk + 1))
          case measure => omega
          case rel => exact ⟨kk + 1, by omega, by omega, by go_num, hs2, ⟨BK5.out⟩, ⟨HB5.out⟩⟩
      · have hne1 : (mm != (kk : Int)) = true := by simpa using hq2
        have hs2 : Aside0 (gb = false) := ⟨by rw [HS.out, decide_eq_false hq2]; rfl⟩
        clear HS hq2
        go_wp2_with (first | (go_at_call 81; refine (impl_isName.calls kn y.f0 true _ HN.out).mono ?_; rintro e w' ⟨rfl, ⟨nd3, rfl⟩⟩) | (go_at_call 82; refine (HMA.out nd3).mono ?_; rintro e w4 ⟨rfl, hb⟩; have HB4 := Aside0.mk (below_step (pw_below_drewN HB2.out nd3) hb); clear hb))
        go_ret
        exact ⟨by (rw [hs2.out]; try rfl), by repeat (first | (with_reducible exact HB4.out) | apply pw_below_drewN | apply below_drew1)⟩
    · have hltz : ¬ (kk : Int) < (l0.length : Int) := by omega
      have hk : kk = l0.length := by omega
      have hs2 : Aside0 (gb = true) := ⟨by rw [HA.out, hk, modesB_end]⟩
      clear hk HA
      go_wp2
      go_ret
      exact ⟨by (rw [hs2.out]; try rfl), HB.out⟩
end Go.Proofs.Ytijmhelacmjggaa.P
namespace Go.Proofs.Ytijmhelacmjggaa.P
open Go.RowKit Go.Proofs.YtijmhelacmjggaaW.PrintWords Go.Proofs.YtijmhelacmjggaaW.PrintLast Go.Proofs.YtijmhelacmjggaaW.PrintMore
attribute [local go_sem] max2_int min2_int max_two min_two max_three min_three max_four min_four
set_option linter.unusedVariables false
set_option linter.unusedSimpArgs false
/-! ### impl_GrammarOk: function 28 -/
def smallRB (x : S113) : Bool := decide (x.f0.size ≤ 1048576) && (decide (x.f1.f0.length ≤ 1048576) && x.f1.f0.all fun y => decide (y.f2.length ≤ 9223372036854775807))
def smallMB (m : S108) : Bool := decide (m.f0.size ≤ 1048576) && (decide (m.f1.length ≤ 1048576) && m.f1.all smallRB)
def smallGB (g : List (S108)) : Bool := decide (g.length ≤ 1048576) && g.all smallMB
theorem smallG_iff (g : List (S108)) : smallGB g = true ↔ smallG g := by
  simp only [smallGB, smallMB, smallRB, smallG, smallM, smallR, Bool.and_eq_true, decide_eq_true_eq, List.all_eq_true]
def impl_GrammarOk.f (l0_0 : List (S108)) : Option (Bool) := if smallGB l0_0 = true then some (grammarB l0_0) else none
theorem impl_GrammarOk.calls (A0_0 : Option Addr) (c0_0 : Nat) (l0_0 : List (S108)) (r : Bool) (w : World) (hr0_0 : Kd.C k108 w A0_0 l0_0.length l0_0) (hc0_0 : l0_0.length ≤ c0_0) (h : impl_GrammarOk.f l0_0 = some r) :
    Calls Try.prog 28 #[.agg #[.slice A0_0 l0_0.length c0_0]] w fun e w' => e = .returned (.bool r) ∧ Below w.heap.size w w' := by
  unfold impl_GrammarOk.f at h
  by_cases hp : smallGB l0_0 = true
  · rw [if_pos hp] at h
    obtain rfl := Option.some.inj h
    exact GrammarOk_hand A0_0 c0_0 l0_0 w ((smallG_iff l0_0).1 hp) hr0_0 hc0_0
  · rw [if_neg hp] at h
    exact absurd h (by simp)
/-! ### impl_size_int64: function 133 -/
def impl_size_int64.f (l0 : List Int) : Option (Int) := some (l0.length : Int)
set_option maxHeartbeats 8000000 in
set_option maxRecDepth 100000 in
theorem impl_size_int64.calls (A0 : Option Addr) (c0 : Nat) (l0 : List Int) (r : Int) (w : World) (hr0 : Kd.C (Kd.int .i64) w A0 l0.length l0) (hc0 : l0.length ≤ c0) (h : impl_size_int64.f l0 = some r) :
  Calls Try.prog 133 #[.slice A0 l0.length c0] w fun e w' => e = .returned (.int .i64 r) ∧ Drawn0 w w' := by
 have HR0 := Aside0.mk hr0
 have HC0 := Aside0.mk hc0
 clear hr0 hc0
 have H : (some (l0.length : Int)) = some r := h
 clear h
 obtain rfl := Option.some.inj H
 go_enter Try.func133, Try.ntmps133
 go_wp2
 go_ret
 exact ⟨by first | rfl | (simp; done) | (simp [*]; done), by repeat (first | exact Drawn0.refl _ | apply Drawn0.step)⟩
end Go.Proofs.Ytijmhelacmjggaa.P
namespace Go.Proofs.Ytijmhelacmjggaa.P
open Go.RowKit Go.Shelf Go.Proofs.YtijmhelacmjggaaW.PrintWords Go.Proofs.YtijmhelacmjggaaW.PrintLast Go.Proofs.YtijmhelacmjggaaW.PrintMore Go.Proofs.YtijmhelacmjggaaEv
set_option linter.unusedVariables false
set_option linter.unusedSimpArgs false
def areB (l : List Int) (lo hi : Int) : Bool := !(l.any fun n => !decide (lo ≤ n ∧ n ≤ hi))
set_option maxHeartbeats 4000000 in
theorem areWithin_1_calls (B : Nat) (lo hi : Int) (w : World) (n : Nat) (x : Int) (h1 : w.cell? ⟨B, 0, none⟩ = some (.int .i64 lo)) (h2 : w.cell? ⟨B + 1, 0, none⟩ = some (.int .i64 hi)) :
    Calls Try.prog 164 (#[.int .i64 x] ++ #[.pointer (some ⟨B, 0, none⟩), .pointer (some ⟨B + 1, 0, none⟩)]) (w.drewN n) fun e w' => e = .returned (.bool (!decide (lo ≤ x ∧ x ≤ hi))) ∧ ∃ m, w' = (w.drewN n).drewN m := by
  have HI := Aside0.mk (impl_within_eq x lo hi)
  have g1 : (w.drewN n).cell? ⟨B, 0, none⟩ = some (.int .i64 lo) := h1
  have g2 : (w.drewN n).cell? ⟨B + 1, 0, none⟩ = some (.int .i64 hi) := h2
  clear h1 h2
  generalize decide (lo ≤ x ∧ x ≤ hi) = b at *
  show Calls Try.prog _ #[.int .i64 x, .pointer (some ⟨B, 0, none⟩), .pointer (some ⟨B + 1, 0, none⟩)] (w.drewN n) _
  go_enter Try.func164, Try.ntmps164
  go_wp2_with (go_at_call 79; refine (impl_within.calls x lo hi b _ HI.out).mono ?_; rintro e w' ⟨rfl, ⟨nd, rfl⟩⟩)
  go_ret
  exact ⟨rfl, nd, by first | rfl | exact (World.drewN_drewN _ _ _).symm⟩
set_option maxHeartbeats 4000000 in
theorem areWithin_hand (A0 : Option Addr) (c0 : Nat) (l0 : List Int) (lo hi : Int) (w : World) (hr0 : Kd.C (Kd.int .i64) w A0 l0.length l0) :
    Calls Try.prog 134 #[.slice A0 l0.length c0, .int .i64 lo, .int .i64 hi] w fun e w' => e = .returned (.bool (areB l0 lo hi)) ∧ Below w.heap.size w w' := by
  have eg : ∀ args w, (callFunc 164 args).run Try.prog w = .ok (.enter 164 args) w := enters_of Try.func164 (by kernel_rfl) rfl
  have HB := Aside0.mk (below_alloc (below_alloc (Below.refl w.heap.size w) (.cells #[.int .i64 lo] 2)) (.cells #[.int .i64 hi] 2))
  have hcf : Aside0 (Calls Try.prog 153 #[.slice A0 l0.length c0, .func (.func 164) #[] #[.pointer (some ⟨w.heap.size, 0, none⟩), .pointer (some ⟨w.heap.size + 1, 0, none⟩)]] ((w.alloc (.cells #[.int .i64 lo] 2)).alloc (.cells #[.int .i64 hi] 2)) fun e w' => e = .returned (.bool (l0.any fun n => !decide (lo ≤ n ∧ n ≤ hi))) ∧ Drawn0 ((w.alloc (.cells #[.int .i64 lo] 2)).alloc (.cells #[.int .i64 hi] 2)) w') := ⟨by
    refine ContainsFunc_int _ _ eg (fun n => !decide (lo ≤ n ∧ n ≤ hi)) A0 c0 l0 _ (Kd.C_below hr0 HB.out) ?_
    intro n x _
    have hb1 := blk_alloc (blk_new w (.cells #[.int .i64 lo] 2)) (.cells #[.int .i64 hi] 2)
    have hb2 := blk_new (w.alloc (.cells #[.int .i64 lo] 2)) (.cells #[.int .i64 hi] 2)
    rw [show (w.alloc (.cells #[.int .i64 lo] 2)).heap.size = w.heap.size + 1 by simp [World.alloc_eq]] at hb2
    exact areWithin_1_calls w.heap.size lo hi _ n x ((blk_cell hb1 0).trans rfl) ((blk_cell hb2 0).trans rfl)⟩
  have HA : Aside0 (areB l0 lo hi = !(l0.any fun n => !decide (lo ≤ n ∧ n ≤ hi))) := ⟨rfl⟩
  clear eg hr0
  generalize areB l0 lo hi = bb at *
  generalize (l0.any fun n => !decide (lo ≤ n ∧ n ≤ hi)) = an at *
  go_enter Try.func134, Try.ntmps134
  go_wp2_with (go_at_call 153; refine hcf.out.mono ?_; rintro e w' ⟨rfl, ⟨nd, rfl⟩⟩)
  go_ret
  exact ⟨by rw [HA.out]; try rfl, by repeat (first | (with_reducible exact HB.out) | apply pw_below_drewN | apply below_drew1)⟩
end Go.Proofs.Ytijmhelacmjggaa.P
namespace Go.Proofs.Ytijmhelacmjggaa.P
open Go.RowKit Go.Proofs.YtijmhelacmjggaaW.PrintWords Go.Proofs.YtijmhelacmjggaaW.PrintLast Go.Proofs.YtijmhelacmjggaaW.PrintMore
attribute [local go_sem] max2_int min2_int max_two min_two max_three min_three max_four min_four
set_option linter.unusedVariables false
set_option linter.unusedSimpArgs false
/-! ### impl_areWithin: function 134 -/
def impl_areWithin.f (l0 : List Int) (a1 : Int) (a2 : Int) : Option (Bool) := some (areB l0 a1 a2)
theorem impl_areWithin.calls (A0 : Option Addr) (c0 : Nat) (l0 : List Int) (a1 : Int) (a2 : Int) (r : Bool) (w : World) (hr0 : Kd.C (Kd.int .i64) w A0 l0.length l0) (hc0 : l0.length ≤ c0) (h : impl_areWithin.f l0 a1 a2 = some r) :
    Calls Try.prog 134 #[.slice A0 l0.length c0, .int .i64 a1, .int .i64 a2] w fun e w' => e = .returned (.bool r) ∧ Below w.heap.size w w' := by
  obtain rfl := Option.some.inj h
  exact areWithin_hand A0 c0 l0 a1 a2 w hr0
/-! ### impl_streamOk: function 93 -/
def impl_streamOk.j0 : Nat → Bool → List Int → ByteArray → Int → Int → Int → Int → Option (Bool)
 | 0, _, _, _, _, _, _, _ => none
 | k + 1, x23, x102000, x102001, x102002, x102003, x102004, x102005 => if x23 = true then (some false) else ((impl_within.f x102002 0 1000000000000).bind fun t105 => (if t105 = true then ((impl_within.f x102003 1 1000000000000).bind fun t106 => (if t106 = true then ((impl_within.f x102004 1 1000000000000).bind fun t107 => (if t107 = true then (if x102005 = 0 then (some true) else ((impl_within.f x102005 2 4).bind fun t108 => (some t108))) else (some false))) else (some false))) else (some false)))
def impl_streamOk.f (k : Nat) (a0 : Int) (l1_0 : List Int) (a1_1 : ByteArray) (a1_2 : Int) (a1_3 : Int) (a1_4 : Int) (a1_5 : Int) : Option (Bool) := (impl_size_int64.f l1_0).bind fun t102 => ((impl_within.f t102 1 20).bind fun t103 => (if t103 = true then ((impl_areWithin.f l1_0 0 (wrap64 (a0 - 1))).bind fun t104 => (if t104 = true then (impl_streamOk.j0 k (decide ((a1_1.size : Int) > 20000)) l1_0 a1_1 a1_2 a1_3 a1_4 a1_5) else (impl_streamOk.j0 k true l1_0 a1_1 a1_2 a1_3 a1_4 a1_5))) else (impl_streamOk.j0 k true l1_0 a1_1 a1_2 a1_3 a1_4 a1_5)))
set_option maxHeartbeats 8000000 in
set_option maxRecDepth 100000 in
theorem impl_streamOk.calls (k : Nat) (a0 : Int) (A1_0 : Option Addr) (c1_0 : Nat) (l1_0 : List Int) (a1_1 : ByteArray) (a1_2 : Int) (a1_3 : Int) (a1_4 : Int) (a1_5 : Int) (r : Bool) (w : World) (hr1_0 : Kd.C (Kd.int .i64) w A1_0 l1_0.length l1_0) (hc1_0 : l1_0.length ≤ c1_0) (h : impl_streamOk.f k a0 l1_0 a1_1 a1_2 a1_3 a1_4 a1_5 = some r) :
  Calls Try.prog 93 #[.int .i64 a0, .agg #[.slice A1_0 l1_0.length c1_0, .string a1_1, .int .i64 a1_2, .int .i64 a1_3, .int .i64 a1_4, .int .i64 a1_5]] w fun e w' => e = .returned (.bool r) ∧ Below w.heap.size w w' := by
 have hu61 := Try.underlying61
 have HR1_0 := Aside0.mk hr1_0
 have HC1_0 := Aside0.mk hc1_0
 clear hr1_0 hc1_0
 have HB := Aside0.mk (Below.refl w.heap.size w)
 have H : ((impl_size_int64.f l1_0).bind fun t102 => ((impl_within.f t102 1 20).bind fun t103 => (if t103 = true then ((impl_areWithin.f l1_0 0 (wrap64 (a0 - 1))).bind fun t104 => (if t104 = true then (impl_streamOk.j0 k (decide ((a1_1.size : Int) > 20000)) l1_0 a1_1 a1_2 a1_3 a1_4 a1_5) else (impl_streamOk.j0 k true l1_0 a1_1 a1_2 a1_3 a1_4 a1_5))) else (impl_streamOk.j0 k true l1_0 a1_1 a1_2 a1_3 a1_4 a1_5)))) = some r := h
 clear h
 have HC3 := Aside0.mk H
 clear H
 go_enter Try.func93, Try.ntmps93
 go_upto_region 1 with (first | ((with_reducible refine gate_dst (N := 3) rfl ?_); (try (refine gate_guard (by rfl) ?_; dsimp only)); refine bx_ 3 #[.slice A1_0 l1_0.length c1_0, .string a1_1, .int .i64 a1_2, .int .i64 a1_3, .int .i64 a1_4, .int .i64 a1_5] 61 ?_; intro gb101 hg w4 hbox hb; have BK101 := Aside0.mk (hbox); have GW101 := ge_ hg HB; have GE101 := GW101; replace HB := sb_ HB hb; clear hb hbox hg))
 (try simp only [Act.put, List.setIfInBounds_toArray, List.set_cons_zero, List.set_cons_succ])
 go_cut [23] (fun v23 wc => ∃ (kq : Nat) (x23_2 : Bool), v23 = .bool x23_2 ∧ Aside0 (impl_streamOk.j0 kq x23_2 l1_0 a1_1 a1_2 a1_3 a1_4 a1_5 = some r) ∧ Aside0 (kq ≤ k) ∧ Aside0 (wc.heap[gb101]? = some (.cells #[(.slice A1_0 l1_0.length c1_0), .string a1_1, .int .i64 a1_2, .int .i64 a1_3, .int .i64 a1_4, .int .i64 a1_5] 61 (0, 0))) ∧ Aside0 (Below w.heap.size w wc))
 case first =>
  have H := HC3.out
  clear HC3
  obtain ⟨t102, A5, H⟩ := ob_ H
  obtain ⟨t103, A6, H⟩ := ob_ H
  by_cases c7 : t103 = true
  ·subst c7
   rw [if_pos rfl] at H
   obtain ⟨t104, A8, H⟩ := ob_ H
   by_cases c9 : t104 = true
   ·subst c9
    rw [if_pos rfl] at H
    have H' := Aside0.mk H
    clear H
    obtain ⟨hcz10_0, hcz10_1, hcz10_2, hcz10_3, hcz10_4, hcz10_5, hfz10_0, hfz10_1, hfz10_2, hfz10_3, hfz10_4, hfz10_5⟩ := d6_ BK101
    go_wp2_with (first | ((with_reducible refine gate_callee (f := 133) rfl ?_); refine gl_ (some 7) rfl rfl Try.func133 #[.slice A1_0 l1_0.length c1_0] ?_; (with_reducible refine (impl_size_int64.calls _ _ l1_0 t102 _ ?side1 ?side2 A5.out).mono ?_); (case side1 => exact Kd.C_below HR1_0.out (be_ HB.out)); (case side2 => exact HC1_0.out); rintro e w' ⟨rfl, ⟨nd, rfl⟩⟩; refine ⟨_, rfl, ?_⟩) | ((with_reducible refine gate_callee (f := 79) rfl ?_); refine gl_ (some 8) rfl rfl Try.func79 #[.int .i64 t102, .int .i64 1, .int .i64 20] ?_; (with_reducible refine (impl_within.calls t102 1 20 true _ A6.out).mono ?_); rintro e w' ⟨rfl, ⟨nd, rfl⟩⟩; refine ⟨_, rfl, ?_⟩) | (go_at_call 134; (with_reducible refine (impl_areWithin.calls _ _ l1_0 0 (wrap64 (a0 - 1)) true _ ?side1 ?side2 A8.out).mono ?_); (case side1 => repeat (first | exact (Kd.C_below HR1_0.out (be1_ HB.out GE101.out)) | (with_reducible refine Kd.C_alloc ?_ _) | (with_reducible refine Kd.C_drewN ?_ _) | (with_reducible refine Kd.C_drew ?_))); (case side2 => exact HC1_0.out); rintro e w11 ⟨rfl, hb⟩; replace BK101 := lb_ BK101 hb; replace HB := sb1_ HB GE101 hb; (try clear hb); obtain ⟨hcz12_0, hcz12_1, hcz12_2, hcz12_3, hcz12_4, hcz12_5, hfz12_0, hfz12_1, hfz12_2, hfz12_3, hfz12_4, hfz12_5⟩ := d6_ BK101))
    go_meet
    case rel => exact ⟨_, (decide ((a1_1.size : Int) > 20000)), rs_, H', ⟨by first | omega | exact Nat.le_refl _⟩, ⟨bk_ BK101.out⟩, ⟨be1_ HB.out GE101.out⟩⟩
   ·replace c9 := Bool.eq_false_iff.mpr c9
    subst c9
    rw [if_neg nft_] at H
    have H' := Aside0.mk H
    clear H
    obtain ⟨hcz13_0, hcz13_1, hcz13_2, hcz13_3, hcz13_4, hcz13_5, hfz13_0, hfz13_1, hfz13_2, hfz13_3, hfz13_4, hfz13_5⟩ := d6_ BK101
    go_wp2_with (first | ((with_reducible refine gate_callee (f := 133) rfl ?_); refine gl_ (some 7) rfl rfl Try.func133 #[.slice A1_0 l1_0.length c1_0] ?_; (with_reducible refine (impl_size_int64.calls _ _ l1_0 t102 _ ?side1 ?side2 A5.out).mono ?_); (case side1 => exact Kd.C_below HR1_0.out (be_ HB.out)); (case side2 => exact HC1_0.out); rintro e w' ⟨rfl, ⟨nd, rfl⟩⟩; refine ⟨_, rfl, ?_⟩) | ((with_reducible refine gate_callee (f := 79) rfl ?_); refine gl_ (some 8) rfl rfl Try.func79 #[.int .i64 t102, .int .i64 1, .int .i64 20] ?_; (with_reducible refine (impl_within.calls t102 1 20 true _ A6.out).mono ?_); rintro e w' ⟨rfl, ⟨nd, rfl⟩⟩; refine ⟨_, rfl, ?_⟩) | (go_at_call 134; (with_reducible refine (impl_areWithin.calls _ _ l1_0 0 (wrap64 (a0 - 1)) false _ ?side1 ?side2 A8.out).mono ?_); (case side1 => repeat (first | exact (Kd.C_below HR1_0.out (be1_ HB.out GE101.out)) | (with_reducible refine Kd.C_alloc ?_ _) | (with_reducible refine Kd.C_drewN ?_ _) | (with_reducible refine Kd.C_drew ?_))); (case side2 => exact HC1_0.out); rintro e w14 ⟨rfl, hb⟩; replace BK101 := lb_ BK101 hb; replace HB := sb1_ HB GE101 hb; (try clear hb)))
    go_meet
    case rel => exact ⟨_, (true), rs_, H', ⟨by first | omega | exact Nat.le_refl _⟩, ⟨bk_ BK101.out⟩, ⟨be1_ HB.out GE101.out⟩⟩
  ·replace c7 := Bool.eq_false_iff.mpr c7
   subst c7
   rw [if_neg nft_] at H
   have H' := Aside0.mk H
   clear H
   obtain ⟨hcz15_0, hcz15_1, hcz15_2, hcz15_3, hcz15_4, hcz15_5, hfz15_0, hfz15_1, hfz15_2, hfz15_3, hfz15_4, hfz15_5⟩ := d6_ BK101
   go_wp2_with (first | ((with_reducible refine gate_callee (f := 133) rfl ?_); refine gl_ (some 7) rfl rfl Try.func133 #[.slice A1_0 l1_0.length c1_0] ?_; (with_reducible refine (impl_size_int64.calls _ _ l1_0 t102 _ ?side1 ?side2 A5.out).mono ?_); (case side1 => exact Kd.C_below HR1_0.out (be_ HB.out)); (case side2 => exact HC1_0.out); rintro e w' ⟨rfl, ⟨nd, rfl⟩⟩; refine ⟨_, rfl, ?_⟩) | ((with_reducible refine gate_callee (f := 79) rfl ?_); refine gl_ (some 8) rfl rfl Try.func79 #[.int .i64 t102, .int .i64 1, .int .i64 20] ?_; (with_reducible refine (impl_within.calls t102 1 20 false _ A6.out).mono ?_); rintro e w' ⟨rfl, ⟨nd, rfl⟩⟩; refine ⟨_, rfl, ?_⟩))
   go_meet
   case rel => exact ⟨_, (true), rs_, H', ⟨by first | omega | exact Nat.le_refl _⟩, ⟨bk_ BK101.out⟩, ⟨be1_ HB.out GE101.out⟩⟩
 case rest =>
  clear HC3
  try clear c7
  try clear c9
  try clear hcz10_0
  try clear hcz10_1
  try clear hcz10_2
  try clear hcz10_3
  try clear hcz10_4
  try clear hcz10_5
  try clear hcz12_0
  try clear hcz12_1
  try clear hcz12_2
  try clear hcz12_3
  try clear hcz12_4
  try clear hcz12_5
  try clear hcz13_0
  try clear hcz13_1
  try clear hcz13_2
  try clear hcz13_3
  try clear hcz13_4
  try clear hcz13_5
  try clear hcz15_0
  try clear hcz15_1
  try clear hcz15_2
  try clear hcz15_3
  try clear hcz15_4
  try clear hcz15_5
  try clear hfz10_0
  try clear hfz10_1
  try clear hfz10_2
  try clear hfz10_3
  try clear hfz10_4
  try clear hfz10_5
  try clear hfz12_0
  try clear hfz12_1
  try clear hfz12_2
  try clear hfz12_3
  try clear hfz12_4
  try clear hfz12_5
  try clear hfz13_0
  try clear hfz13_1
  try clear hfz13_2
  try clear hfz13_3
  try clear hfz13_4
  try clear hfz13_5
  try clear hfz15_0
  try clear hfz15_1
  try clear hfz15_2
  try clear hfz15_3
  try clear hfz15_4
  try clear hfz15_5
  obtain ⟨kq, x23_2, rfl, HA, HJ2, BK101, HB⟩ := hcut
  cases kq with
  | zero => exact absurd HA.out (by simp [impl_streamOk.j0])
  | succ kj2 =>
   have H := HA.out
   clear HA
   simp only [impl_streamOk.j0] at H
   by_cases c16 : x23_2 = true
   ·subst c16
    rw [if_pos rfl] at H
    obtain rfl := Option.some.inj H
    go_wp2
    go_ret
    exact ⟨rt_, be1_ HB.out GE101.out⟩
   ·replace c16 := Bool.eq_false_iff.mpr c16
    subst c16
    rw [if_neg nft_] at H
    obtain ⟨t105, A17, H⟩ := ob_ H
    by_cases c18 : t105 = true
    ·subst c18
     rw [if_pos rfl] at H
     obtain ⟨t106, A19, H⟩ := ob_ H
     by_cases c20 : t106 = true
     ·subst c20
      rw [if_pos rfl] at H
      obtain ⟨t107, A21, H⟩ := ob_ H
      by_cases c22 : t107 = true
      ·subst c22
       rw [if_pos rfl] at H
       by_cases c23 : a1_5 = 0
       ·rw [if_pos c23] at H
        have c23b0 : (a1_5 == 0) = true := beq_iff_eq.mpr c23
        have c23b1 : (a1_5 != 0) = false := bne_eq_false_iff_eq.mpr c23
        clear c23
        obtain rfl := Option.some.inj H
        obtain ⟨hcz24_0, hcz24_1, hcz24_2, hcz24_3, hcz24_4, hcz24_5, hfz24_0, hfz24_1, hfz24_2, hfz24_3, hfz24_4, hfz24_5⟩ := d6_ BK101
        go_wp2_with (first | ((with_reducible refine gate_callee (f := 79) rfl ?_); refine gl_ (some 26) rfl rfl Try.func79 #[.int .i64 a1_2, .int .i64 0, .int .i64 1000000000000] ?_; (with_reducible refine (impl_within.calls a1_2 0 1000000000000 true _ A17.out).mono ?_); rintro e w' ⟨rfl, ⟨nd, rfl⟩⟩; refine ⟨_, rfl, ?_⟩) | (go_at_call 79; (with_reducible refine (impl_within.calls a1_3 1 1000000000000 true _ A19.out).mono ?_); rintro e w' ⟨rfl, ⟨nd, rfl⟩⟩) | (go_at_call 79; (with_reducible refine (impl_within.calls a1_4 1 1000000000000 true _ A21.out).mono ?_); rintro e w' ⟨rfl, ⟨nd, rfl⟩⟩))
        go_ret
        exact ⟨rt_, be1_ HB.out GE101.out⟩
       ·rw [if_neg c23] at H
        have c23b0 : (a1_5 == 0) = false := beq_eq_false_iff_ne.mpr c23
        have c23b1 : (a1_5 != 0) = true := bne_iff_ne.mpr c23
        obtain ⟨t108, A25, H⟩ := ob_ H
        obtain rfl := Option.some.inj H
        obtain ⟨hcz26_0, hcz26_1, hcz26_2, hcz26_3, hcz26_4, hcz26_5, hfz26_0, hfz26_1, hfz26_2, hfz26_3, hfz26_4, hfz26_5⟩ := d6_ BK101
        go_wp2_with (first | ((with_reducible refine gate_callee (f := 79) rfl ?_); refine gl_ (some 26) rfl rfl Try.func79 #[.int .i64 a1_2, .int .i64 0, .int .i64 1000000000000] ?_; (with_reducible refine (impl_within.calls a1_2 0 1000000000000 true _ A17.out).mono ?_); rintro e w' ⟨rfl, ⟨nd, rfl⟩⟩; refine ⟨_, rfl, ?_⟩) | (go_at_call 79; (with_reducible refine (impl_within.calls a1_3 1 1000000000000 true _ A19.out).mono ?_); rintro e w' ⟨rfl, ⟨nd, rfl⟩⟩) | (go_at_call 79; (with_reducible refine (impl_within.calls a1_4 1 1000000000000 true _ A21.out).mono ?_); rintro e w' ⟨rfl, ⟨nd, rfl⟩⟩) | (go_at_call 79; (with_reducible refine (impl_within.calls a1_5 2 4 t108 _ A25.out).mono ?_); rintro e w' ⟨rfl, ⟨nd, rfl⟩⟩))
        go_ret
        exact ⟨rt_, be1_ HB.out GE101.out⟩
      ·replace c22 := Bool.eq_false_iff.mpr c22
       subst c22
       rw [if_neg nft_] at H
       obtain rfl := Option.some.inj H
       obtain ⟨hcz27_0, hcz27_1, hcz27_2, hcz27_3, hcz27_4, hcz27_5, hfz27_0, hfz27_1, hfz27_2, hfz27_3, hfz27_4, hfz27_5⟩ := d6_ BK101
       go_wp2_with (first | ((with_reducible refine gate_callee (f := 79) rfl ?_); refine gl_ (some 26) rfl rfl Try.func79 #[.int .i64 a1_2, .int .i64 0, .int .i64 1000000000000] ?_; (with_reducible refine (impl_within.calls a1_2 0 1000000000000 true _ A17.out).mono ?_); rintro e w' ⟨rfl, ⟨nd, rfl⟩⟩; refine ⟨_, rfl, ?_⟩) | (go_at_call 79; (with_reducible refine (impl_within.calls a1_3 1 1000000000000 true _ A19.out).mono ?_); rintro e w' ⟨rfl, ⟨nd, rfl⟩⟩) | (go_at_call 79; (with_reducible refine (impl_within.calls a1_4 1 1000000000000 false _ A21.out).mono ?_); rintro e w' ⟨rfl, ⟨nd, rfl⟩⟩))
       go_ret
       exact ⟨rt_, be1_ HB.out GE101.out⟩
     ·replace c20 := Bool.eq_false_iff.mpr c20
      subst c20
      rw [if_neg nft_] at H
      obtain rfl := Option.some.inj H
      obtain ⟨hcz28_0, hcz28_1, hcz28_2, hcz28_3, hcz28_4, hcz28_5, hfz28_0, hfz28_1, hfz28_2, hfz28_3, hfz28_4, hfz28_5⟩ := d6_ BK101
      go_wp2_with (first | ((with_reducible refine gate_callee (f := 79) rfl ?_); refine gl_ (some 26) rfl rfl Try.func79 #[.int .i64 a1_2, .int .i64 0, .int .i64 1000000000000] ?_; (with_reducible refine (impl_within.calls a1_2 0 1000000000000 true _ A17.out).mono ?_); rintro e w' ⟨rfl, ⟨nd, rfl⟩⟩; refine ⟨_, rfl, ?_⟩) | (go_at_call 79; (with_reducible refine (impl_within.calls a1_3 1 1000000000000 false _ A19.out).mono ?_); rintro e w' ⟨rfl, ⟨nd, rfl⟩⟩))
      go_ret
      exact ⟨rt_, be1_ HB.out GE101.out⟩
    ·replace c18 := Bool.eq_false_iff.mpr c18
     subst c18
     rw [if_neg nft_] at H
     obtain rfl := Option.some.inj H
     obtain ⟨hcz29_0, hcz29_1, hcz29_2, hcz29_3, hcz29_4, hcz29_5, hfz29_0, hfz29_1, hfz29_2, hfz29_3, hfz29_4, hfz29_5⟩ := d6_ BK101
     go_wp2_with (first | ((with_reducible refine gate_callee (f := 79) rfl ?_); refine gl_ (some 26) rfl rfl Try.func79 #[.int .i64 a1_2, .int .i64 0, .int .i64 1000000000000] ?_; (with_reducible refine (impl_within.calls a1_2 0 1000000000000 false _ A17.out).mono ?_); rintro e w' ⟨rfl, ⟨nd, rfl⟩⟩; refine ⟨_, rfl, ?_⟩))
     go_ret
     exact ⟨rt_, be1_ HB.out GE101.out⟩
/-! ### impl_StreamOk: function 36 -/
def impl_StreamOk.f (k : Nat) (l0_0 : List (S108)) (l1_0 : List Int) (a1_1 : ByteArray) (a1_2 : Int) (a1_3 : Int) (a1_4 : Int) (a1_5 : Int) : Option (Bool) := (impl_GrammarOk.f l0_0).bind fun t103 => (if t103 = true then ((impl_Mode_80.f l0_0).bind fun t104 => ((impl_streamOk.f k t104 l1_0 a1_1 a1_2 a1_3 a1_4 a1_5).bind fun t105 => (some t105))) else (some false))
def impl_StreamOk.T1 : Bool × List (List Nat × List Nat) := (true, [([], []), ([0], [0]), ([1, 1], [1]), ([2], [2]), ([3, 2], [2, 3]), ([4, 2, 2], [2, 4]), ([2], [2]), ([5, 6, 5, 2], [2, 5, 6]), ([2, 7], [2, 7]), ([8, 7, 0, 1, 2, 3, 4, 5, 6, 7, 8], [8])])
def impl_StreamOk.B1 : List Nat := [0, 1, 3, 7, 15, 31, 7, 127, 255, 511]
theorem impl_StreamOk.tab1 : rtab .any (opsOf Try.f36 1) = impl_StreamOk.T1 := by kernel_rfl
theorem impl_StreamOk.bits1 : waitsOk impl_StreamOk.T1.2 impl_StreamOk.B1 = true := by kernel_rfl
set_option maxHeartbeats 8000000 in
set_option maxRecDepth 100000 in
theorem impl_StreamOk.calls (k : Nat) (A0_0 : Option Addr) (c0_0 : Nat) (l0_0 : List (S108)) (A1_0 : Option Addr) (c1_0 : Nat) (l1_0 : List Int) (a1_1 : ByteArray) (a1_2 : Int) (a1_3 : Int) (a1_4 : Int) (a1_5 : Int) (r : Bool) (w : World) (hr0_0 : Kd.C k108 w A0_0 l0_0.length l0_0) (hc0_0 : l0_0.length ≤ c0_0) (hr1_0 : Kd.C (Kd.int .i64) w A1_0 l1_0.length l1_0) (hc1_0 : l1_0.length ≤ c1_0) (h : impl_StreamOk.f k l0_0 l1_0 a1_1 a1_2 a1_3 a1_4 a1_5 = some r) :
  Calls Try.prog 36 #[.agg #[.slice A0_0 l0_0.length c0_0], .agg #[.slice A1_0 l1_0.length c1_0, .string a1_1, .int .i64 a1_2, .int .i64 a1_3, .int .i64 a1_4, .int .i64 a1_5]] w fun e w' => e = .returned (.bool r) ∧ Below w.heap.size w w' := by
 have hu46 := Try.underlying46
 have hu61 := Try.underlying61
 have HR0_0 := Aside0.mk hr0_0
 have HC0_0 := Aside0.mk hc0_0
 clear hr0_0 hc0_0
 have HR1_0 := Aside0.mk hr1_0
 have HC1_0 := Aside0.mk hc1_0
 clear hr1_0 hc1_0
 have HB := Aside0.mk (Below.refl w.heap.size w)
 have H : ((impl_GrammarOk.f l0_0).bind fun t103 => (if t103 = true then ((impl_Mode_80.f l0_0).bind fun t104 => ((impl_streamOk.f k t104 l1_0 a1_1 a1_2 a1_3 a1_4 a1_5).bind fun t105 => (some t105))) else (some false))) = some r := h
 clear h
 obtain ⟨t103, A3, H⟩ := ob_ H
 by_cases c4 : t103 = true
 ·subst c4
  rw [if_pos rfl] at H
  obtain ⟨t104, A5, H⟩ := ob_ H
  obtain ⟨t105, A6, H⟩ := ob_ H
  obtain rfl := Option.some.inj H
  go_enter Try.func36, Try.ntmps36
  try go_wp2_with (first | ((with_reducible refine gate_dst (N := 2) rfl ?_); refine bx_ 2 #[.slice A0_0 l0_0.length c0_0] 46 ?_; intro gb101 hg w7 hbox hb; have BK101 := Aside0.mk (hbox); have GW101 := ge_ hg HB; have GE101 := GW101; replace HB := sb_ HB hb; clear hb hbox hg) | ((with_reducible refine gate_dst (N := 3) rfl ?_); refine bx_ 3 #[.slice A1_0 l1_0.length c1_0, .string a1_1, .int .i64 a1_2, .int .i64 a1_3, .int .i64 a1_4, .int .i64 a1_5] 61 ?_; intro gb102 hg w8 hbox hb; have BK102 := Aside0.mk (hbox); have GW102 := ge1_ hg HB GE101; have GE102 := GW102; replace BK101 := lb_ BK101 hb; replace HB := sb1_ HB GE101 hb; clear hb hbox hg))
  replace BK101 := Aside0.mk (blk_drew BK101.out)
  replace BK102 := Aside0.mk (blk_drew BK102.out)
  replace HB := Aside0.mk (below_drew1 HB.out)
  refine start_ (n := 10) (S := fun w' => w'.cell? ⟨gb101, 0, none⟩ = some (.slice A0_0 l0_0.length c0_0) ∧ w'.cell? ⟨gb102, 0, none⟩ = some (.slice A1_0 l1_0.length c1_0) ∧ w'.cell? ⟨gb102, 1, none⟩ = some (.string a1_1) ∧ w'.cell? ⟨gb102, 2, none⟩ = some (.int .i64 a1_2) ∧ w'.cell? ⟨gb102, 3, none⟩ = some (.int .i64 a1_3) ∧ w'.cell? ⟨gb102, 4, none⟩ = some (.int .i64 a1_4) ∧ w'.cell? ⟨gb102, 5, none⟩ = some (.int .i64 a1_5)) (ds := []) #[false, false, false, false, false, false, false, false, false, false] (by kernel_rfl) rfl rfl ⟨(blk_cell BK101.out 0).trans rfl, (blk_cell BK102.out 0).trans rfl, (blk_cell BK102.out 1).trans rfl, (blk_cell BK102.out 2).trans rfl, (blk_cell BK102.out 3).trans rfl, (blk_cell BK102.out 4).trans rfl, (blk_cell BK102.out 5).trans rfl⟩ (fun hHeld => ?_); refine with_tabW impl_StreamOk.tab1 impl_StreamOk.bits1 (fun HT_ HW_ => ?_)
  generalize w8.drew = w9 at BK101 BK102 HB hHeld ⊢
  refine ta_ 0 (some 5) (bb 10 1) HT_.out HW_.out hHeld ?_
  refine one_ (i := 1) (N := some 6) (bb 10 3) rfl rfl (one_of HT_.out (by kernel_rfl)) (by decide) (fun K hK => ?_)
  refine gs_ Try.func28 #[.agg #[.slice A0_0 l0_0.length c0_0]] ?_
  with_reducible refine (impl_GrammarOk.calls _ _ l0_0 true _ ?side1 ?side2 A3.out).mono ?_
  (case side1 => exact Kd.C_below HR0_0.out (be_ HB.out))
  (case side2 => exact HC0_0.out)
  rintro e w10 ⟨rfl, hb⟩
  refine ⟨_, rfl, ?_⟩
  replace BK101 := lb_ BK101 hb
  replace BK102 := lb_ BK102 hb
  replace HB := sb2_ HB GE101 GE102 hb
  (try clear hb)
  (try clear hb2)
  (try clear hk)
  (try clear hi)
  refine hK.out _ _ ⟨(blk_cell BK101.out 0).trans rfl, (blk_cell BK102.out 0).trans rfl, (blk_cell BK102.out 1).trans rfl, (blk_cell BK102.out 2).trans rfl, (blk_cell BK102.out 3).trans rfl, (blk_cell BK102.out 4).trans rfl, (blk_cell BK102.out 5).trans rfl⟩ (fun hHeld => ?_)
  clear hK K
  refine no_ (some 6) ?_
  refine pu_ 2 (some 7) (bb 10 7) HT_.out ?_
  refine pu_ 3 (some 8) (bb 10 15) HT_.out ?_
  refine ta_ 4 (some 9) (bb 10 31) HT_.out HW_.out hHeld ?_
  refine ta_ 6 (some 11) (bb 10 95) HT_.out HW_.out hHeld ?_
  refine one_ (i := 5) (N := some 10) (bb 10 127) rfl rfl (one_of HT_.out (by kernel_rfl)) (by decide) (fun K hK => ?_)
  refine gs_ Try.func80 #[.slice A0_0 l0_0.length c0_0] ?_
  with_reducible refine (impl_Mode_80.calls _ _ l0_0 t104 _ ?side1 ?side2 A5.out).mono ?_
  (case side1 => exact Kd.C_below HR0_0.out (be_ HB.out))
  (case side2 => exact HC0_0.out)
  rintro e w' ⟨rfl, ⟨nd, rfl⟩⟩
  refine ⟨_, rfl, ?_⟩
  refine hK.out _ _ ⟨(blk_cell BK101.out 0).trans rfl, (blk_cell BK102.out 0).trans rfl, (blk_cell BK102.out 1).trans rfl, (blk_cell BK102.out 2).trans rfl, (blk_cell BK102.out 3).trans rfl, (blk_cell BK102.out 4).trans rfl, (blk_cell BK102.out 5).trans rfl⟩ (fun hHeld => ?_)
  clear hK K
  refine no_ (some 10) ?_
  refine one_ (i := 7) (N := some 12) (bb 10 255) rfl rfl (one_of HT_.out (by kernel_rfl)) (by decide) (fun K hK => ?_)
  refine gs_ Try.func93 #[.int .i64 t104, .agg #[.slice A1_0 l1_0.length c1_0, .string a1_1, .int .i64 a1_2, .int .i64 a1_3, .int .i64 a1_4, .int .i64 a1_5]] ?_
  with_reducible refine (impl_streamOk.calls k t104 _ _ l1_0 a1_1 a1_2 a1_3 a1_4 a1_5 t105 _ ?side1 ?side2 A6.out).mono ?_
  (case side1 => repeat (first | exact (Kd.C_below HR1_0.out (be2_ HB.out GE101.out GE102.out)) | (with_reducible refine Kd.C_alloc ?_ _) | (with_reducible refine Kd.C_drewN ?_ _) | (with_reducible refine Kd.C_drew ?_)))
  (case side2 => exact HC1_0.out)
  rintro e w11 ⟨rfl, hb⟩
  refine ⟨_, rfl, ?_⟩
  replace BK101 := lb_ BK101 hb
  replace BK102 := lb_ BK102 hb
  replace HB := sb2_ HB GE101 GE102 hb
  (try clear hb)
  (try clear hb2)
  (try clear hk)
  (try clear hi)
  refine hK.out _ _ ⟨(blk_cell BK101.out 0).trans rfl, (blk_cell BK102.out 0).trans rfl, (blk_cell BK102.out 1).trans rfl, (blk_cell BK102.out 2).trans rfl, (blk_cell BK102.out 3).trans rfl, (blk_cell BK102.out 4).trans rfl, (blk_cell BK102.out 5).trans rfl⟩ (fun hHeld => ?_)
  clear hK K
  refine no_ (some 12) ?_
  refine pu_ 8 (some 13) (bb 10 511) HT_.out ?_
  refine pu_ 9 (some 4) (bb 10 1023) HT_.out ?_
  refine done_ (done_of HT_.out (by kernel_rfl)) ?_
  try go_wp2
  go_ret
  exact ⟨rt_, be2_ HB.out GE101.out GE102.out⟩
 ·replace c4 := Bool.eq_false_iff.mpr c4
  subst c4
  rw [if_neg nft_] at H
  obtain rfl := Option.some.inj H
  go_enter Try.func36, Try.ntmps36
  try go_wp2_with (first | ((with_reducible refine gate_dst (N := 2) rfl ?_); refine bx_ 2 #[.slice A0_0 l0_0.length c0_0] 46 ?_; intro gb101 hg w12 hbox hb; have BK101 := Aside0.mk (hbox); have GW101 := ge_ hg HB; have GE101 := GW101; replace HB := sb_ HB hb; clear hb hbox hg) | ((with_reducible refine gate_dst (N := 3) rfl ?_); refine bx_ 3 #[.slice A1_0 l1_0.length c1_0, .string a1_1, .int .i64 a1_2, .int .i64 a1_3, .int .i64 a1_4, .int .i64 a1_5] 61 ?_; intro gb102 hg w13 hbox hb; have BK102 := Aside0.mk (hbox); have GW102 := ge1_ hg HB GE101; have GE102 := GW102; replace BK101 := lb_ BK101 hb; replace HB := sb1_ HB GE101 hb; clear hb hbox hg))
  replace BK101 := Aside0.mk (blk_drew BK101.out)
  replace BK102 := Aside0.mk (blk_drew BK102.out)
  replace HB := Aside0.mk (below_drew1 HB.out)
  refine start_ (n := 10) (S := fun w' => w'.cell? ⟨gb101, 0, none⟩ = some (.slice A0_0 l0_0.length c0_0)) (ds := []) #[false, false, false, false, false, false, false, false, false, false] (by kernel_rfl) rfl rfl ((blk_cell BK101.out 0).trans rfl) (fun hHeld => ?_); refine with_tabW impl_StreamOk.tab1 impl_StreamOk.bits1 (fun HT_ HW_ => ?_)
  generalize w13.drew = w14 at BK101 BK102 HB hHeld ⊢
  refine ta_ 0 (some 5) (bb 10 1) HT_.out HW_.out hHeld ?_
  refine one_ (i := 1) (N := some 6) (bb 10 3) rfl rfl (one_of HT_.out (by kernel_rfl)) (by decide) (fun K hK => ?_)
  refine gs_ Try.func28 #[.agg #[.slice A0_0 l0_0.length c0_0]] ?_
  with_reducible refine (impl_GrammarOk.calls _ _ l0_0 false _ ?side1 ?side2 A3.out).mono ?_
  (case side1 => exact Kd.C_below HR0_0.out (be_ HB.out))
  (case side2 => exact HC0_0.out)
  rintro e w15 ⟨rfl, hb⟩
  refine ⟨_, rfl, ?_⟩
  replace BK101 := lb_ BK101 hb
  replace BK102 := lb_ BK102 hb
  replace HB := sb2_ HB GE101 GE102 hb
  (try clear hb)
  (try clear hb2)
  (try clear hk)
  (try clear hi)
  refine hK.out _ _ ((blk_cell BK101.out 0).trans rfl) (fun hHeld => ?_)
  clear hK K
  refine no_ (some 6) ?_
  refine pu_ 2 (some 7) (bb 10 7) HT_.out ?_
  refine pw_ 3 (some 8) (bb 10 15) HT_.out ?_
  refine pw_ 4 (some 9) (bb 10 31) HT_.out ?_
  refine pw_ 5 (some 10) (bb 10 63) HT_.out ?_
  refine pw_ 6 (some 11) (bb 10 127) HT_.out ?_
  refine pw_ 7 (some 12) (bb 10 255) HT_.out ?_
  refine pu_ 8 (some 13) (bb 10 511) HT_.out ?_
  refine pu_ 9 (some 4) (bb 10 1023) HT_.out ?_
  refine done_ (done_of HT_.out (by kernel_rfl)) ?_
  try go_wp2
  go_ret
  exact ⟨rt_, be2_ HB.out GE101.out GE102.out⟩
/-! ### laws_eqStream: function 37 -/
def laws_eqStream.f (k : Nat) (l0_0 : List Int) (a0_1 : ByteArray) (a0_2 : Int) (a0_3 : Int) (a0_4 : Int) (a0_5 : Int) (l1_0 : List Int) (a1_1 : ByteArray) (a1_2 : Int) (a1_3 : Int) (a1_4 : Int) (a1_5 : Int) : Option (Bool) := (laws_eqInt64S.f k l0_0 l1_0).bind fun t103 => (if t103 = true then (if a0_1.toList = a1_1.toList then (if a0_2 = a1_2 then (if a0_3 = a1_3 then (if a0_4 = a1_4 then (if a0_5 = a1_5 then (some true) else (none)) else (none)) else (none)) else (none)) else (none)) else (none))
set_option maxHeartbeats 8000000 in
set_option maxRecDepth 100000 in
theorem laws_eqStream.calls (k : Nat) (A0_0 : Option Addr) (c0_0 : Nat) (l0_0 : List Int) (a0_1 : ByteArray) (a0_2 : Int) (a0_3 : Int) (a0_4 : Int) (a0_5 : Int) (A1_0 : Option Addr) (c1_0 : Nat) (l1_0 : List Int) (a1_1 : ByteArray) (a1_2 : Int) (a1_3 : Int) (a1_4 : Int) (a1_5 : Int) (r : Bool) (w : World) (hr0_0 : Kd.C (Kd.int .i64) w A0_0 l0_0.length l0_0) (hc0_0 : l0_0.length ≤ c0_0) (hr1_0 : Kd.C (Kd.int .i64) w A1_0 l1_0.length l1_0) (hc1_0 : l1_0.length ≤ c1_0) (h : laws_eqStream.f k l0_0 a0_1 a0_2 a0_3 a0_4 a0_5 l1_0 a1_1 a1_2 a1_3 a1_4 a1_5 = some r) :
  Calls Try.prog 37 #[.agg #[.slice A0_0 l0_0.length c0_0, .string a0_1, .int .i64 a0_2, .int .i64 a0_3, .int .i64 a0_4, .int .i64 a0_5], .agg #[.slice A1_0 l1_0.length c1_0, .string a1_1, .int .i64 a1_2, .int .i64 a1_3, .int .i64 a1_4, .int .i64 a1_5]] w fun e w' => e = .returned (.bool r) ∧ Below w.heap.size w w' := by
 have hu61 := Try.underlying61
 have HR0_0 := Aside0.mk hr0_0
 have HC0_0 := Aside0.mk hc0_0
 clear hr0_0 hc0_0
 have HR1_0 := Aside0.mk hr1_0
 have HC1_0 := Aside0.mk hc1_0
 clear hr1_0 hc1_0
 have HB := Aside0.mk (Below.refl w.heap.size w)
 have H : ((laws_eqInt64S.f k l0_0 l1_0).bind fun t103 => (if t103 = true then (if a0_1.toList = a1_1.toList then (if a0_2 = a1_2 then (if a0_3 = a1_3 then (if a0_4 = a1_4 then (if a0_5 = a1_5 then (some true) else (none)) else (none)) else (none)) else (none)) else (none)) else (none))) = some r := h
 clear h
 obtain ⟨t103, A3, H⟩ := ob_ H
 by_cases c4 : t103 = true
 ·subst c4
  rw [if_pos rfl] at H
  by_cases c5 : a0_1.toList = a1_1.toList
  ·rw [if_pos c5] at H
   have c5b0 : (a0_1.toList == a1_1.toList) = true := beq_iff_eq.mpr c5
   have c5b1 : (a0_1.toList != a1_1.toList) = false := bne_eq_false_iff_eq.mpr c5
   clear c5
   by_cases c6 : a0_2 = a1_2
   ·rw [if_pos c6] at H
    have c6b0 : (a0_2 == a1_2) = true := beq_iff_eq.mpr c6
    have c6b1 : (a0_2 != a1_2) = false := bne_eq_false_iff_eq.mpr c6
    clear c6
    by_cases c7 : a0_3 = a1_3
    ·rw [if_pos c7] at H
     have c7b0 : (a0_3 == a1_3) = true := beq_iff_eq.mpr c7
     have c7b1 : (a0_3 != a1_3) = false := bne_eq_false_iff_eq.mpr c7
     clear c7
     by_cases c8 : a0_4 = a1_4
     ·rw [if_pos c8] at H
      have c8b0 : (a0_4 == a1_4) = true := beq_iff_eq.mpr c8
      have c8b1 : (a0_4 != a1_4) = false := bne_eq_false_iff_eq.mpr c8
      clear c8
      by_cases c9 : a0_5 = a1_5
      ·rw [if_pos c9] at H
       have c9b0 : (a0_5 == a1_5) = true := beq_iff_eq.mpr c9
       have c9b1 : (a0_5 != a1_5) = false := bne_eq_false_iff_eq.mpr c9
       clear c9
       obtain rfl := Option.some.inj H
       go_enter Try.func37, Try.ntmps37
       go_wp2_with (first | ((with_reducible refine gate_dst (N := 2) rfl ?_); refine bx_ 2 #[.slice A0_0 l0_0.length c0_0, .string a0_1, .int .i64 a0_2, .int .i64 a0_3, .int .i64 a0_4, .int .i64 a0_5] 61 ?_; intro gb101 hg w10 hbox hb; have BK101 := Aside0.mk (hbox); have GW101 := ge_ hg HB; have GE101 := GW101; replace HB := sb_ HB hb; clear hb hbox hg) | ((with_reducible refine gate_dst (N := 3) rfl ?_); refine bx_ 3 #[.slice A1_0 l1_0.length c1_0, .string a1_1, .int .i64 a1_2, .int .i64 a1_3, .int .i64 a1_4, .int .i64 a1_5] 61 ?_; intro gb102 hg w11 hbox hb; have BK102 := Aside0.mk (hbox); have GW102 := ge1_ hg HB GE101; have GE102 := GW102; have NB101_102 := nl_ hg BK101; have NB102_101 := ng_ hg BK101; replace BK101 := lb_ BK101 hb; replace HB := sb1_ HB GE101 hb; clear hb hbox hg; have hnb12 := NB101_102.out; have hnc12 := NB102_101.out; obtain ⟨hcz13_0, hcz13_1, hcz13_2, hcz13_3, hcz13_4, hcz13_5, hfz13_0, hfz13_1, hfz13_2, hfz13_3, hfz13_4, hfz13_5⟩ := d6_ BK101; obtain ⟨hcz14_0, hcz14_1, hcz14_2, hcz14_3, hcz14_4, hcz14_5, hfz14_0, hfz14_1, hfz14_2, hfz14_3, hfz14_4, hfz14_5⟩ := d6_ BK102) | ((with_reducible refine gate_callee (f := 40) rfl ?_); refine gl_ (some 9) rfl rfl Try.func40 #[.slice A0_0 l0_0.length c0_0, .slice A1_0 l1_0.length c1_0] ?_; (with_reducible refine (laws_eqInt64S.calls k _ _ l0_0 _ _ l1_0 true _ ?side1 ?side2 ?side3 ?side4 A3.out).mono ?_); (case side1 => exact Kd.C_below HR0_0.out (be_ HB.out)); (case side2 => exact HC0_0.out); (case side3 => exact Kd.C_below HR1_0.out (be_ HB.out)); (case side4 => exact HC1_0.out); rintro e w' ⟨rfl, ⟨nd, rfl⟩⟩; refine ⟨_, rfl, ?_⟩))
       go_ret
       exact ⟨rt_, be2_ HB.out GE101.out GE102.out⟩
      ·rw [if_neg c9] at H
       have c9b0 : (a0_5 == a1_5) = false := beq_eq_false_iff_ne.mpr c9
       have c9b1 : (a0_5 != a1_5) = true := bne_iff_ne.mpr c9
       exact absurd H (by simp)
     ·rw [if_neg c8] at H
      have c8b0 : (a0_4 == a1_4) = false := beq_eq_false_iff_ne.mpr c8
      have c8b1 : (a0_4 != a1_4) = true := bne_iff_ne.mpr c8
      exact absurd H (by simp)
    ·rw [if_neg c7] at H
     have c7b0 : (a0_3 == a1_3) = false := beq_eq_false_iff_ne.mpr c7
     have c7b1 : (a0_3 != a1_3) = true := bne_iff_ne.mpr c7
     exact absurd H (by simp)
   ·rw [if_neg c6] at H
    have c6b0 : (a0_2 == a1_2) = false := beq_eq_false_iff_ne.mpr c6
    have c6b1 : (a0_2 != a1_2) = true := bne_iff_ne.mpr c6
    exact absurd H (by simp)
  ·rw [if_neg c5] at H
   have c5b0 : (a0_1.toList == a1_1.toList) = false := beq_eq_false_iff_ne.mpr c5
   have c5b1 : (a0_1.toList != a1_1.toList) = true := bne_iff_ne.mpr c5
   exact absurd H (by simp)
 ·replace c4 := Bool.eq_false_iff.mpr c4
  subst c4
  rw [if_neg nft_] at H
  exact absurd H (by simp)
/-! ### laws_FnExactStreamOk: function 8 -/
def laws_FnExactStreamOk.f (k : Nat) (l0_0 : List (S171)) (l1_0 : List Int) (a1_1 : ByteArray) (a1_2 : Int) (a1_3 : Int) (a1_4 : Int) (a1_5 : Int) : Option (Bool) := (laws_szGrammar.f k l0_0 1048576).bind fun t103 => (if t103 < 0 then (some true) else ((laws_szStream.f l1_0 a1_1 a1_2 a1_3 a1_4 a1_5 t103).bind fun t104 => (if t104 < 0 then (some true) else ((laws_toGrammar.f k l0_0).bind fun t105 => ((laws_toStream.f k l1_0 a1_1 a1_2 a1_3 a1_4 a1_5).bind fun bt108 => ((spec_StreamOk.f k t105 bt108.1 bt108.2.1 bt108.2.2.1 bt108.2.2.2.1 bt108.2.2.2.2.1 bt108.2.2.2.2.2).bind fun t116 => ((laws_toGrammar.f k l0_0).bind fun t117 => ((laws_toStream.f k l1_0 a1_1 a1_2 a1_3 a1_4 a1_5).bind fun bt121 => ((impl_StreamOk.f k t117 bt121.1 bt121.2.1 bt121.2.2.1 bt121.2.2.2.1 bt121.2.2.2.2.1 bt121.2.2.2.2.2).bind fun t130 => (if (t130 != t116) = true then (none) else ((laws_toGrammar.f k l0_0).bind fun t131 => ((laws_eqGrammar.f k t117 t131).bind fun t134 => (if t134 = true then ((laws_toStream.f k l1_0 a1_1 a1_2 a1_3 a1_4 a1_5).bind fun bt135 => ((laws_eqStream.f k bt121.1 bt121.2.1 bt121.2.2.1 bt121.2.2.2.1 bt121.2.2.2.2.1 bt121.2.2.2.2.2 bt135.1 bt135.2.1 bt135.2.2.1 bt135.2.2.2.1 bt135.2.2.2.2.1 bt135.2.2.2.2.2).bind fun t143 => (if t143 = true then (some true) else (none)))) else (none))))))))))))))
set_option maxHeartbeats 8000000 in
set_option maxRecDepth 100000 in
theorem laws_FnExactStreamOk.calls (k : Nat) (A0_0 : Option Addr) (c0_0 : Nat) (l0_0 : List (S171)) (A1_0 : Option Addr) (c1_0 : Nat) (l1_0 : List Int) (a1_1 : ByteArray) (a1_2 : Int) (a1_3 : Int) (a1_4 : Int) (a1_5 : Int) (r : Bool) (w : World) (hr0_0 : Kd.C k171 w A0_0 l0_0.length l0_0) (hc0_0 : l0_0.length ≤ c0_0) (hr1_0 : Kd.C (Kd.int .i64) w A1_0 l1_0.length l1_0) (hc1_0 : l1_0.length ≤ c1_0) (h : laws_FnExactStreamOk.f k l0_0 l1_0 a1_1 a1_2 a1_3 a1_4 a1_5 = some r) :
  Calls Try.prog 8 #[.agg #[.slice A0_0 l0_0.length c0_0], .agg #[.slice A1_0 l1_0.length c1_0, .string a1_1, .int .i64 a1_2, .int .i64 a1_3, .int .i64 a1_4, .int .i64 a1_5]] w fun e w' => e = .returned (.bool r) ∧ Below w.heap.size w w' := by
 have hu41 := Try.underlying41
 have hu58 := Try.underlying58
 have hu46 := Try.underlying46
 have hu61 := Try.underlying61
 have HR0_0 := Aside0.mk hr0_0
 have HC0_0 := Aside0.mk hc0_0
 clear hr0_0 hc0_0
 have HR1_0 := Aside0.mk hr1_0
 have HC1_0 := Aside0.mk hc1_0
 clear hr1_0 hc1_0
 have HB := Aside0.mk (Below.refl w.heap.size w)
 have H : ((laws_szGrammar.f k l0_0 1048576).bind fun t103 => (if t103 < 0 then (some true) else ((laws_szStream.f l1_0 a1_1 a1_2 a1_3 a1_4 a1_5 t103).bind fun t104 => (if t104 < 0 then (some true) else ((laws_toGrammar.f k l0_0).bind fun t105 => ((laws_toStream.f k l1_0 a1_1 a1_2 a1_3 a1_4 a1_5).bind fun bt108 => ((spec_StreamOk.f k t105 bt108.1 bt108.2.1 bt108.2.2.1 bt108.2.2.2.1 bt108.2.2.2.2.1 bt108.2.2.2.2.2).bind fun t116 => ((laws_toGrammar.f k l0_0).bind fun t117 => ((laws_toStream.f k l1_0 a1_1 a1_2 a1_3 a1_4 a1_5).bind fun bt121 => ((impl_StreamOk.f k t117 bt121.1 bt121.2.1 bt121.2.2.1 bt121.2.2.2.1 bt121.2.2.2.2.1 bt121.2.2.2.2.2).bind fun t130 => (if (t130 != t116) = true then (none) else ((laws_toGrammar.f k l0_0).bind fun t131 => ((laws_eqGrammar.f k t117 t131).bind fun t134 => (if t134 = true then ((laws_toStream.f k l1_0 a1_1 a1_2 a1_3 a1_4 a1_5).bind fun bt135 => ((laws_eqStream.f k bt121.1 bt121.2.1 bt121.2.2.1 bt121.2.2.2.1 bt121.2.2.2.2.1 bt121.2.2.2.2.2 bt135.1 bt135.2.1 bt135.2.2.1 bt135.2.2.2.1 bt135.2.2.2.2.1 bt135.2.2.2.2.2).bind fun t143 => (if t143 = true then (some true) else (none)))) else (none))))))))))))))) = some r := h
 clear h
 obtain ⟨t103, A3, H⟩ := ob_ H
 by_cases c4 : t103 < 0
 ·rw [if_pos c4] at H
  have c4b0 := decide_eq_true c4
  clear c4
  obtain rfl := Option.some.inj H
  go_enter Try.func8, Try.ntmps8
  go_wp2_with (first | ((with_reducible refine gate_dst (N := 2) rfl ?_); refine bx_ 2 #[.slice A0_0 l0_0.length c0_0] 41 ?_; intro gb101 hg w5 hbox hb; have BK101 := Aside0.mk (hbox); have GW101 := ge_ hg HB; have GE101 := GW101; replace HB := sb_ HB hb; clear hb hbox hg) | ((with_reducible refine gate_dst (N := 3) rfl ?_); refine bx_ 3 #[.slice A1_0 l1_0.length c1_0, .string a1_1, .int .i64 a1_2, .int .i64 a1_3, .int .i64 a1_4, .int .i64 a1_5] 58 ?_; intro gb102 hg w6 hbox hb; have BK102 := Aside0.mk (hbox); have GW102 := ge1_ hg HB GE101; have GE102 := GW102; have NB101_102 := nl_ hg BK101; have NB102_101 := ng_ hg BK101; replace BK101 := lb_ BK101 hb; replace HB := sb1_ HB GE101 hb; clear hb hbox hg; have hnb7 := NB101_102.out; have hnc7 := NB102_101.out; obtain ⟨hcz8_0, hfz8_0⟩ := d1_ BK101) | ((with_reducible refine gate_callee (f := 25) rfl ?_); refine gl_ (some 12) rfl rfl Try.func25 #[.agg #[.slice A0_0 l0_0.length c0_0], .int .i64 1048576] ?_; (with_reducible refine (laws_szGrammar.calls k _ _ l0_0 1048576 t103 _ ?side1 ?side2 A3.out).mono ?_); (case side1 => exact Kd.C_below HR0_0.out (be_ HB.out)); (case side2 => exact HC0_0.out); rintro e w9 ⟨rfl, hb⟩; refine ⟨_, rfl, ?_⟩; replace BK101 := lb_ BK101 hb; replace BK102 := lb_ BK102 hb; replace HB := sb2_ HB GE101 GE102 hb; (try clear hb)))
  go_ret
  exact ⟨rt_, be2_ HB.out GE101.out GE102.out⟩
 ·rw [if_neg c4] at H
  have c4b0 := decide_eq_false c4
  clear c4
  obtain ⟨t104, A10, H⟩ := ob_ H
  by_cases c11 : t104 < 0
  ·rw [if_pos c11] at H
   have c11b0 := decide_eq_true c11
   clear c11
   obtain rfl := Option.some.inj H
   go_enter Try.func8, Try.ntmps8
   go_wp2_with (first | ((with_reducible refine gate_dst (N := 2) rfl ?_); refine bx_ 2 #[.slice A0_0 l0_0.length c0_0] 41 ?_; intro gb101 hg w12 hbox hb; have BK101 := Aside0.mk (hbox); have GW101 := ge_ hg HB; have GE101 := GW101; replace HB := sb_ HB hb; clear hb hbox hg) | ((with_reducible refine gate_dst (N := 3) rfl ?_); refine bx_ 3 #[.slice A1_0 l1_0.length c1_0, .string a1_1, .int .i64 a1_2, .int .i64 a1_3, .int .i64 a1_4, .int .i64 a1_5] 58 ?_; intro gb102 hg w13 hbox hb; have BK102 := Aside0.mk (hbox); have GW102 := ge1_ hg HB GE101; have GE102 := GW102; have NB101_102 := nl_ hg BK101; have NB102_101 := ng_ hg BK101; replace BK101 := lb_ BK101 hb; replace HB := sb1_ HB GE101 hb; clear hb hbox hg; have hnb14 := NB101_102.out; have hnc14 := NB102_101.out; obtain ⟨hcz15_0, hfz15_0⟩ := d1_ BK101) | ((with_reducible refine gate_callee (f := 25) rfl ?_); refine gl_ (some 12) rfl rfl Try.func25 #[.agg #[.slice A0_0 l0_0.length c0_0], .int .i64 1048576] ?_; (with_reducible refine (laws_szGrammar.calls k _ _ l0_0 1048576 t103 _ ?side1 ?side2 A3.out).mono ?_); (case side1 => exact Kd.C_below HR0_0.out (be_ HB.out)); (case side2 => exact HC0_0.out); rintro e w16 ⟨rfl, hb⟩; refine ⟨_, rfl, ?_⟩; replace BK101 := lb_ BK101 hb; replace BK102 := lb_ BK102 hb; replace HB := sb2_ HB GE101 GE102 hb; (try clear hb); obtain ⟨hcz17_0, hcz17_1, hcz17_2, hcz17_3, hcz17_4, hcz17_5, hfz17_0, hfz17_1, hfz17_2, hfz17_3, hfz17_4, hfz17_5⟩ := d6_ BK102) | ((with_reducible refine gate_callee (f := 33) rfl ?_); refine gl_ (some 17) rfl rfl Try.func33 #[.agg #[.slice A1_0 l1_0.length c1_0, .string a1_1, .int .i64 a1_2, .int .i64 a1_3, .int .i64 a1_4, .int .i64 a1_5], .int .i64 t103] ?_; (with_reducible refine (laws_szStream.calls _ _ l1_0 a1_1 a1_2 a1_3 a1_4 a1_5 t103 t104 _ ?side1 ?side2 A10.out).mono ?_); (case side1 => exact Kd.C_below HR1_0.out (be_ HB.out)); (case side2 => exact HC1_0.out); rintro e w18 ⟨rfl, hb⟩; refine ⟨_, rfl, ?_⟩; replace BK101 := lb_ BK101 hb; replace BK102 := lb_ BK102 hb; replace HB := sb2_ HB GE101 GE102 hb; (try clear hb)))
   go_ret
   exact ⟨rt_, be2_ HB.out GE101.out GE102.out⟩
  ·rw [if_neg c11] at H
   have c11b0 := decide_eq_false c11
   clear c11
   obtain ⟨t105, A19, H⟩ := ob_ H
   replace H := Option.bind_eq_some_iff.mp H
   obtain ⟨⟨t108, t111, t112, t113, t114, t115⟩, A200, H⟩ := H
   replace H : ((spec_StreamOk.f k t105 t108 t111 t112 t113 t114 t115).bind fun t116 => ((laws_toGrammar.f k l0_0).bind fun t117 => ((laws_toStream.f k l1_0 a1_1 a1_2 a1_3 a1_4 a1_5).bind fun bt121 => ((impl_StreamOk.f k t117 bt121.1 bt121.2.1 bt121.2.2.1 bt121.2.2.2.1 bt121.2.2.2.2.1 bt121.2.2.2.2.2).bind fun t130 => (if (t130 != t116) = true then (none) else ((laws_toGrammar.f k l0_0).bind fun t131 => ((laws_eqGrammar.f k t117 t131).bind fun t134 => (if t134 = true then ((laws_toStream.f k l1_0 a1_1 a1_2 a1_3 a1_4 a1_5).bind fun bt135 => ((laws_eqStream.f k bt121.1 bt121.2.1 bt121.2.2.1 bt121.2.2.2.1 bt121.2.2.2.2.1 bt121.2.2.2.2.2 bt135.1 bt135.2.1 bt135.2.2.1 bt135.2.2.2.1 bt135.2.2.2.2.1 bt135.2.2.2.2.2).bind fun t143 => (if t143 = true then (some true) else (none)))) else (none))))))))) = some r := H
   have A20 := Aside0.mk A200
   clear A200
   obtain ⟨t116, A21, H⟩ := ob_ H
   obtain ⟨t117, A22, H⟩ := ob_ H
   replace H := Option.bind_eq_some_iff.mp H
   obtain ⟨⟨t121, t124, t125, t126, t127, t128⟩, A230, H⟩ := H
   replace H : ((impl_StreamOk.f k t117 t121 t124 t125 t126 t127 t128).bind fun t130 => (if (t130 != t116) = true then (none) else ((laws_toGrammar.f k l0_0).bind fun t131 => ((laws_eqGrammar.f k t117 t131).bind fun t134 => (if t134 = true then ((laws_toStream.f k l1_0 a1_1 a1_2 a1_3 a1_4 a1_5).bind fun bt135 => ((laws_eqStream.f k t121 t124 t125 t126 t127 t128 bt135.1 bt135.2.1 bt135.2.2.1 bt135.2.2.2.1 bt135.2.2.2.2.1 bt135.2.2.2.2.2).bind fun t143 => (if t143 = true then (some true) else (none)))) else (none)))))) = some r := H
   have A23 := Aside0.mk A230
   clear A230
   obtain ⟨t130, A24, H⟩ := ob_ H
   by_cases c25 : (t130 != t116) = true
   ·rw [if_pos c25] at H
    have c25b0 : (t130 != t116) = true := c25
    (try (have c25b1 : decide (t130 = t116) = false := by simpa using c25))
    (try (have c25b2 : (t130 == t116) = false := by simpa using c25))
    (try (have c25b3 : ¬ (t130 = t116) := by simpa using c25))
    clear c25
    exact absurd H (by simp)
   ·rw [if_neg c25] at H
    have c25b0 : (t130 != t116) = false := by simpa using c25
    (try (have c25b1 : decide (t130 = t116) = true := by simpa using c25))
    (try (have c25b2 : (t130 == t116) = true := by simpa using c25))
    clear c25
    obtain ⟨t131, A56, H⟩ := ob_ H
    obtain ⟨t134, A57, H⟩ := ob_ H
    by_cases c58 : t134 = true
    ·subst c58
     rw [if_pos rfl] at H
     replace H := Option.bind_eq_some_iff.mp H
     obtain ⟨⟨t135, t138, t139, t140, t141, t142⟩, A590, H⟩ := H
     replace H : ((laws_eqStream.f k t121 t124 t125 t126 t127 t128 t135 t138 t139 t140 t141 t142).bind fun t143 => (if t143 = true then (some true) else (none))) = some r := H
     have A59 := Aside0.mk A590
     clear A590
     obtain ⟨t143, A60, H⟩ := ob_ H
     by_cases c61 : t143 = true
     ·subst c61
      rw [if_pos rfl] at H
      obtain rfl := Option.some.inj H
      go_enter Try.func8, Try.ntmps8
      try go_wp2_with (first | ((with_reducible refine gate_dst (N := 2) rfl ?_); refine bx_ 2 #[.slice A0_0 l0_0.length c0_0] 41 ?_; intro gb101 hg w62 hbox hb; have BK101 := Aside0.mk (hbox); have GW101 := ge_ hg HB; have GE101 := GW101; replace HB := sb_ HB hb; clear hb hbox hg) | ((with_reducible refine gate_dst (N := 3) rfl ?_); refine bx_ 3 #[.slice A1_0 l1_0.length c1_0, .string a1_1, .int .i64 a1_2, .int .i64 a1_3, .int .i64 a1_4, .int .i64 a1_5] 58 ?_; intro gb102 hg w63 hbox hb; have BK102 := Aside0.mk (hbox); have GW102 := ge1_ hg HB GE101; have GE102 := GW102; have NB101_102 := nl_ hg BK101; have NB102_101 := ng_ hg BK101; replace BK101 := lb_ BK101 hb; replace HB := sb1_ HB GE101 hb; clear hb hbox hg; have hnb64 := NB101_102.out; have hnc64 := NB102_101.out; obtain ⟨hcz65_0, hfz65_0⟩ := d1_ BK101) | ((with_reducible refine gate_callee (f := 25) rfl ?_); refine gl_ (some 12) rfl rfl Try.func25 #[.agg #[.slice A0_0 l0_0.length c0_0], .int .i64 1048576] ?_; (with_reducible refine (laws_szGrammar.calls k _ _ l0_0 1048576 t103 _ ?side1 ?side2 A3.out).mono ?_); (case side1 => exact Kd.C_below HR0_0.out (be_ HB.out)); (case side2 => exact HC0_0.out); rintro e w66 ⟨rfl, hb⟩; refine ⟨_, rfl, ?_⟩; replace BK101 := lb_ BK101 hb; replace BK102 := lb_ BK102 hb; replace HB := sb2_ HB GE101 GE102 hb; (try clear hb); obtain ⟨hcz67_0, hcz67_1, hcz67_2, hcz67_3, hcz67_4, hcz67_5, hfz67_0, hfz67_1, hfz67_2, hfz67_3, hfz67_4, hfz67_5⟩ := d6_ BK102) | ((with_reducible refine gate_callee (f := 33) rfl ?_); refine gl_ (some 17) rfl rfl Try.func33 #[.agg #[.slice A1_0 l1_0.length c1_0, .string a1_1, .int .i64 a1_2, .int .i64 a1_3, .int .i64 a1_4, .int .i64 a1_5], .int .i64 t103] ?_; (with_reducible refine (laws_szStream.calls _ _ l1_0 a1_1 a1_2 a1_3 a1_4 a1_5 t103 t104 _ ?side1 ?side2 A10.out).mono ?_); (case side1 => exact Kd.C_below HR1_0.out (be_ HB.out)); (case side2 => exact HC1_0.out); rintro e w68 ⟨rfl, hb⟩; refine ⟨_, rfl, ?_⟩; replace BK101 := lb_ BK101 hb; replace BK102 := lb_ BK102 hb; replace HB := sb2_ HB GE101 GE102 hb; (try clear hb)))
      replace BK101 := Aside0.mk (blk_drew BK101.out)
      replace BK102 := Aside0.mk (blk_drew BK102.out)
      replace HB := Aside0.mk (below_drew1 HB.out)
      refine start_ (n := 6) (S := fun w' => w'.cell? ⟨gb101, 0, none⟩ = some (.slice A0_0 l0_0.length c0_0) ∧ w'.cell? ⟨gb102, 0, none⟩ = some (.slice A1_0 l1_0.length c1_0) ∧ w'.cell? ⟨gb102, 1, none⟩ = some (.string a1_1) ∧ w'.cell? ⟨gb102, 2, none⟩ = some (.int .i64 a1_2) ∧ w'.cell? ⟨gb102, 3, none⟩ = some (.int .i64 a1_3) ∧ w'.cell? ⟨gb102, 4, none⟩ = some (.int .i64 a1_4) ∧ w'.cell? ⟨gb102, 5, none⟩ = some (.int .i64 a1_5)) (ds := []) #[false, false, false, false, false, false] (by kernel_rfl) rfl rfl ⟨(blk_cell BK101.out 0).trans rfl, (blk_cell BK102.out 0).trans rfl, (blk_cell BK102.out 1).trans rfl, (blk_cell BK102.out 2).trans rfl, (blk_cell BK102.out 3).trans rfl, (blk_cell BK102.out 4).trans rfl, (blk_cell BK102.out 5).trans rfl⟩ (fun hHeld => ?_)
      generalize w68.drew = w69 at BK101 BK102 HB hHeld ⊢
      refine take_ (i := 0) (N := some 20) (v := ?_) (a' := ?_) #[true, false, false, false, false, false] rfl rfl (by kernel_rfl) (fun _ _ _ h => h) (Or.inl ⟨by rfl, ?_⟩) hHeld ?_ ?_
      rotate_left
      ·rintro w' ⟨s0, s1, s2, s3, s4, s5, s6⟩
       go_simp
       with_reducible rfl
      rotate_left
      ·simp only [Act.put, List.setIfInBounds_toArray, List.set_cons_zero, List.set_cons_succ, i64_w, i32_w]
       rfl
      refine take_ (i := 2) (N := some 22) (v := ?_) (a' := ?_) #[true, false, true, false, false, false] rfl rfl (by kernel_rfl) (fun _ _ _ h => h) (Or.inl ⟨by rfl, ?_⟩) hHeld ?_ ?_
      rotate_left
      ·rintro w' ⟨s0, s1, s2, s3, s4, s5, s6⟩
       go_simp
       with_reducible rfl
      rotate_left
      ·simp only [Act.put, List.setIfInBounds_toArray, List.set_cons_zero, List.set_cons_succ, i64_w, i32_w]
       rfl
      refine one_ (i := 1) (N := some 21) (bb 6 7) rfl rfl (by kernel_rfl) (by decide) (fun K hK => ?_)
      refine gs_ Try.func27 #[.agg #[.slice A0_0 l0_0.length c0_0]] ?_
      with_reducible refine (laws_toGrammar.calls k _ _ l0_0 t105 _ ?side1 ?side2 A19.out).mono ?_
      (case side1 => exact Kd.C_below HR0_0.out (be_ HB.out))
      (case side2 => exact HC0_0.out)
      rintro e w70 ⟨v106, rfl, ho0, hb⟩
      refine ⟨_, rfl, ?_⟩
      have HO107 := Aside0.mk (Kd.R_lower ho0 (below_size (be2_ HB.out GE101.out GE102.out)))
      replace BK101 := lb_ BK101 hb
      replace BK102 := lb_ BK102 hb
      replace HB := sb2_ HB GE101 GE102 hb
      (try clear hb)
      (try clear hb2)
      (try clear hk)
      (try clear hi)
      (try clear ho0)
      refine hK.out _ _ ⟨(blk_cell BK101.out 0).trans rfl, (blk_cell BK102.out 0).trans rfl, (blk_cell BK102.out 1).trans rfl, (blk_cell BK102.out 2).trans rfl, (blk_cell BK102.out 3).trans rfl, (blk_cell BK102.out 4).trans rfl, (blk_cell BK102.out 5).trans rfl⟩ (fun hHeld => ?_)
      clear hK K
      refine no_ (some 21) ?_
      refine one_ (i := 3) (N := some 23) (bb 6 15) rfl rfl (by kernel_rfl) (by decide) (fun K hK => ?_)
      refine gs_ Try.func35 #[.agg #[.slice A1_0 l1_0.length c1_0, .string a1_1, .int .i64 a1_2, .int .i64 a1_3, .int .i64 a1_4, .int .i64 a1_5]] ?_
      with_reducible refine (laws_toStream.calls k _ _ l1_0 a1_1 a1_2 a1_3 a1_4 a1_5 t108 t111 t112 t113 t114 t115 _ ?side1 ?side2 A20.out).mono ?_
      (case side1 => exact Kd.C_below HR1_0.out (be_ HB.out))
      (case side2 => exact HC1_0.out)
      rintro e w71 ⟨v109, rfl, ho0, hb⟩
      refine ⟨_, rfl, ?_⟩
      have HO110 := Aside0.mk (Kd.R_lower ho0 (below_size (be2_ HB.out GE101.out GE102.out)))
      replace HO107 := Aside0.mk (Kd.R_elder' (ra_ HO107.out) (Kd.R_base ho0) hb)
      replace BK101 := lb_ BK101 hb
      replace BK102 := lb_ BK102 hb
      replace HB := sb2_ HB GE101 GE102 hb
      (try clear hb)
      (try clear hb2)
      (try clear hk)
      (try clear hi)
      (try clear ho0)
      obtain ⟨Ao72, co72, eo72⟩ := Kd.R_slice HO107.out
      (first | subst eo72 | (injection eo72 with f1_ f2_ f3_; have f4_ := f1_.symm; have f5_ := f3_.symm; clear f1_ f2_ f3_; subst f4_; subst f5_))
      obtain ⟨Ao73, co73, eo73⟩ := Kd.R_slice HO110.out
      (first | subst eo73 | (injection eo73 with f1_ f2_ f3_; have f4_ := f1_.symm; have f5_ := f3_.symm; clear f1_ f2_ f3_; subst f4_; subst f5_))
      refine hK.out _ _ ⟨(blk_cell BK101.out 0).trans rfl, (blk_cell BK102.out 0).trans rfl, (blk_cell BK102.out 1).trans rfl, (blk_cell BK102.out 2).trans rfl, (blk_cell BK102.out 3).trans rfl, (blk_cell BK102.out 4).trans rfl, (blk_cell BK102.out 5).trans rfl⟩ (fun hHeld => ?_)
      clear hK K
      refine no_ (some 23) ?_
      refine one_ (i := 4) (N := some 24) (bb 6 31) rfl rfl (by kernel_rfl) (by decide) (fun K hK => ?_)
      refine gs_ Try.func34 #[.agg #[.slice Ao72 t105.length co72], .agg #[.slice Ao73 t108.length co73, .string t111, .int .i64 t112, .int .i64 t113, .int .i64 t114, .int .i64 t115]] ?_
      with_reducible refine (spec_StreamOk.calls k _ _ t105 _ _ t108 t111 t112 t113 t114 t115 t116 _ ?side1 ?side2 ?side3 ?side4 A21.out).mono ?_
      (case side1 => repeat (first | exact (Kd.R_reads' HO107.out).2.2 | (with_reducible refine Kd.C_alloc ?_ _) | (with_reducible refine Kd.C_drewN ?_ _) | (with_reducible refine Kd.C_drew ?_)))
      (case side2 => exact (Kd.R_reads' HO107.out).2.1)
      (case side3 => repeat (first | exact (Kd.R_reads' HO110.out).2.2 | (with_reducible refine Kd.C_alloc ?_ _) | (with_reducible refine Kd.C_drewN ?_ _) | (with_reducible refine Kd.C_drew ?_)))
      (case side4 => exact (Kd.R_reads' HO110.out).2.1)
      rintro e w74 ⟨rfl, hb⟩
      refine ⟨_, rfl, ?_⟩
      replace HO107 := Aside0.mk (Kd.R_below (ra_ HO107.out) hb)
      replace HO110 := Aside0.mk (Kd.R_below (ra_ HO110.out) hb)
      replace BK101 := lb_ BK101 hb
      replace BK102 := lb_ BK102 hb
      replace HB := sb2_ HB GE101 GE102 hb
      (try clear hb)
      (try clear hb2)
      (try clear hk)
      (try clear hi)
      refine hK.out _ _ ⟨(blk_cell BK101.out 0).trans rfl, (blk_cell BK102.out 0).trans rfl, (blk_cell BK102.out 1).trans rfl, (blk_cell BK102.out 2).trans rfl, (blk_cell BK102.out 3).trans rfl, (blk_cell BK102.out 4).trans rfl, (blk_cell BK102.out 5).trans rfl⟩ (fun hHeld => ?_)
      clear hK K
      refine no_ (some 24) ?_
      refine pure_ (i := 5) (N := some 6) (v := ?_) (a' := ?_) #[true, true, true, true, true, true] rfl rfl (by kernel_rfl) (fun _ _ _ h => h) (Or.inl ⟨by rfl, ?_⟩) ?_ ?_
      rotate_left
      ·intro w'
       go_simp
       with_reducible rfl
      rotate_left
      ·simp only [Act.put, List.setIfInBounds_toArray, List.set_cons_zero, List.set_cons_succ, i64_w, i32_w]
       rfl
      refine done_ (by kernel_rfl) ?_
      obtain ⟨hcz75_0, hfz75_0⟩ := d1_ BK101
      try go_wp2_with (first | ((with_reducible refine gate_callee (f := 27) rfl ?_); refine gl_ (some 26) rfl rfl Try.func27 #[.agg #[.slice A0_0 l0_0.length c0_0]] ?_; (with_reducible refine (laws_toGrammar.calls k _ _ l0_0 t117 _ ?side1 ?side2 A22.out).mono ?_); (case side1 => exact Kd.C_below HR0_0.out (be_ HB.out)); (case side2 => exact HC0_0.out); rintro e w76 ⟨v118, rfl, ho0, hb⟩; refine ⟨_, rfl, ?_⟩; have HO119 := Aside0.mk (Kd.R_lower (Kd.R_new' (Kd.R_new' ho0 (Kd.R_lt (ra_ HO107.out))) (Kd.R_lt (ra_ HO110.out))) (below_size (be2_ HB.out GE101.out GE102.out))); replace HO107 := Aside0.mk (Kd.R_elder' (ra_ HO107.out) (Kd.R_base ho0) hb); replace HO110 := Aside0.mk (Kd.R_below (ra_ HO110.out) hb); replace BK101 := lb_ BK101 hb; replace BK102 := lb_ BK102 hb; replace HB := sb2_ HB GE101 GE102 hb; (try clear hb); (try clear ho0)) | ((with_reducible refine gate_dst (N := 7) rfl ?_); refine bx_ 7 #[.slice none 0 0] 46 ?_; intro gb120 hg w77 hbox hb; have BK120 := Aside0.mk (hbox); have GW120 := ge2_ hg HB GE101 GE102; have GE120 := GW120; have NB101_120 := nl_ hg BK101; have NB120_101 := ng_ hg BK101; have NB102_120 := nl_ hg BK102; have NB120_102 := ng_ hg BK102; replace HO107 := Aside0.mk (Kd.R_below (ra_ HO107.out) hb); replace HO110 := Aside0.mk (Kd.R_below (ra_ HO110.out) hb); replace HO119 := Aside0.mk (Kd.R_below (ra_ HO119.out) hb); replace BK101 := lb_ BK101 hb; replace BK102 := lb_ BK102 hb; replace HB := sb2_ HB GE101 GE102 hb; clear hb hbox hg; obtain ⟨Ao78, co78, eo78⟩ := Kd.R_slice HO119.out; subst eo78; have hnb79 := NB120_101.out; have hnc79 := NB101_120.out; have hnb80 := NB120_102.out; have hnc80 := NB102_120.out; obtain ⟨hcz81_0, hfz81_0⟩ := d1_ BK120; obtain ⟨hcz82_0, hcz82_1, hcz82_2, hcz82_3, hcz82_4, hcz82_5, hfz82_0, hfz82_1, hfz82_2, hfz82_3, hfz82_4, hfz82_5⟩ := d6_ BK102) | ((with_reducible refine gate_callee (f := 35) rfl ?_); refine gl_ (some 28) rfl rfl Try.func35 #[.agg #[.slice A1_0 l1_0.length c1_0, .string a1_1, .int .i64 a1_2, .int .i64 a1_3, .int .i64 a1_4, .int .i64 a1_5]] ?_; (with_reducible refine (laws_toStream.calls k _ _ l1_0 a1_1 a1_2 a1_3 a1_4 a1_5 t121 t124 t125 t126 t127 t128 _ ?side1 ?side2 A23.out).mono ?_); (case side1 => exact Kd.C_below HR1_0.out (be3_ HB.out GE101.out GE102.out GE120.out)); (case side2 => exact HC1_0.out); rintro e w83 ⟨v122, rfl, ho0, hb⟩; refine ⟨_, rfl, ?_⟩; have HO123 := Aside0.mk (Kd.R_lower (Kd.R_new' ho0 (Kd.R_lt (by (with_reducible repeat (first | apply Kd.R_alloc | apply Kd.R_drewN | apply Kd.R_drew)); exact (Kd.R_mono (Kd.R_far (p := ⟨gb120, 0, none⟩) (Kd.R_types HO110.out BK120.out (by decide)) (fun _ hk => hk.2) (.slice Ao78 t117.length co78)) (fun _ h_ => h_.1))))) (below_size (be3_ HB.out GE101.out GE102.out GE120.out))); replace HO107 := Aside0.mk (Kd.R_elder' (by (with_reducible repeat (first | apply Kd.R_alloc | apply Kd.R_drewN | apply Kd.R_drew)); exact (Kd.R_mono (Kd.R_far (p := ⟨gb120, 0, none⟩) (Kd.R_types HO107.out BK120.out (by decide)) (fun _ hk => hk.2) (.slice Ao78 t117.length co78)) (fun _ h_ => h_.1))) (Kd.R_base ho0) hb); replace HO110 := Aside0.mk (Kd.R_elder' (by (with_reducible repeat (first | apply Kd.R_alloc | apply Kd.R_drewN | apply Kd.R_drew)); exact (Kd.R_mono (Kd.R_far (p := ⟨gb120, 0, none⟩) (Kd.R_types HO110.out BK120.out (by decide)) (fun _ hk => hk.2) (.slice Ao78 t117.length co78)) (fun _ h_ => h_.1))) (Kd.R_base ho0) hb); replace HO119 := Aside0.mk (Kd.R_elder' (by (with_reducible repeat (first | apply Kd.R_alloc | apply Kd.R_drewN | apply Kd.R_drew)); exact (Kd.R_mono (Kd.R_far (p := ⟨gb120, 0, none⟩) (Kd.R_types HO119.out BK120.out (by decide)) (fun _ hk => hk.2) (.slice Ao78 t117.length co78)) (fun _ h_ => h_.1))) (Kd.R_base ho0) hb); replace BK101 := Aside0.mk (blk_below (g := gb101) (o := .cells #[.slice A0_0 l0_0.length c0_0] 41 (0, 0)) (by (with_reducible repeat (first | refine blk_drewN ?_ _ | refine blk_drew ?_ | refine blk_alloc ?_ _)); refine blk_far ?_ NB101_120.out _; (with_reducible repeat (first | refine blk_drewN ?_ _ | refine blk_drew ?_ | refine blk_alloc ?_ _)); exact BK101.out) hb); replace BK102 := Aside0.mk (blk_below (g := gb102) (o := .cells #[.slice A1_0 l1_0.length c1_0, .string a1_1, .int .i64 a1_2, .int .i64 a1_3, .int .i64 a1_4, .int .i64 a1_5] 58 (0, 0)) (by (with_reducible repeat (first | refine blk_drewN ?_ _ | refine blk_drew ?_ | refine blk_alloc ?_ _)); refine blk_far ?_ NB102_120.out _; (with_reducible repeat (first | refine blk_drewN ?_ _ | refine blk_drew ?_ | refine blk_alloc ?_ _)); exact BK102.out) hb); replace BK120 := Aside0.mk (blk_below (g := gb120) (o := .cells #[.slice Ao78 t117.length co78] 46 (0, 0)) (by (with_reducible repeat (first | refine blk_drewN ?_ _ | refine blk_drew ?_ | refine blk_alloc ?_ _)); refine blk_put (cs := #[.slice none 0 0]) ?_ 0 _ rfl; (with_reducible repeat (first | refine blk_drewN ?_ _ | refine blk_drew ?_ | refine blk_alloc ?_ _)); exact BK120.out) hb); replace HB := sb3_ HB GE101 GE102 GE120 hb; (try clear hb); (try clear ho0)) | ((with_reducible refine gate_dst (N := 8) rfl ?_); refine bx_ 8 #[.slice none 0 0, .string (⟨#[]⟩ : ByteArray), .int .i64 0, .int .i64 0, .int .i64 0, .int .i64 0] 61 ?_; intro gb129 hg w84 hbox hb; have BK129 := Aside0.mk (hbox); have GW129 := ge3_ hg HB GE101 GE102 GE120; have GE129 := GW129; have NB101_129 := nl_ hg BK101; have NB129_101 := ng_ hg BK101; have NB102_129 := nl_ hg BK102; have NB129_102 := ng_ hg BK102; have NB120_129 := nl_ hg BK120; have NB129_120 := ng_ hg BK120; replace HO107 := Aside0.mk (Kd.R_below (ra_ HO107.out) hb); replace HO110 := Aside0.mk (Kd.R_below (ra_ HO110.out) hb); replace HO119 := Aside0.mk (Kd.R_below (ra_ HO119.out) hb); replace HO123 := Aside0.mk (Kd.R_below (ra_ HO123.out) hb); replace BK101 := lb_ BK101 hb; replace BK102 := lb_ BK102 hb; replace BK120 := lb_ BK120 hb; replace HB := sb3_ HB GE101 GE102 GE120 hb; clear hb hbox hg; obtain ⟨Ao85, co85, eo85⟩ := Kd.R_slice HO123.out; subst eo85; have hnb86 := NB129_101.out; have hnc86 := NB101_129.out; have hnb87 := NB129_102.out; have hnc87 := NB102_129.out; have hnb88 := NB129_120.out; have hnc88 := NB120_129.out; obtain ⟨hcz89_0, hcz89_1, hcz89_2, hcz89_3, hcz89_4, hcz89_5, hfz89_0, hfz89_1, hfz89_2, hfz89_3, hfz89_4, hfz89_5⟩ := d6_ BK129; obtain ⟨hcz90_0, hfz90_0⟩ := d1_ BK120) | ((with_reducible refine gate_callee (f := 36) rfl ?_); refine gl_ (some 31) rfl rfl Try.func36 #[.agg #[.slice Ao78 t117.length co78], .agg #[.slice Ao85 t121.length co85, .string t124, .int .i64 t125, .int .i64 t126, .int .i64 t127, .int .i64 t128]] ?_; (with_reducible refine (impl_StreamOk.calls k _ _ t117 _ _ t121 t124 t125 t126 t127 t128 t130 _ ?side1 ?side2 ?side3 ?side4 A24.out).mono ?_); (case side1 => refine (Kd.R_reads' (e := 108) (base := w.heap.size) (ok := fun k_ => (((True ∧ some k_ ≠ (.slice Ao72 t105.length co72 : Value).ownBlock) ∧ some k_ ≠ (.slice Ao73 t108.length co73 : Value).ownBlock) ∧ some k_ ≠ (.slice Ao85 t121.length co85 : Value).ownBlock)) (n := t117.length) (c := co78) ?_).2.2; exact (by (with_reducible repeat (first | apply Kd.R_alloc | apply Kd.R_drewN | apply Kd.R_drew)); exact (Kd.R_mono (Kd.R_far (p := ⟨gb129, 5, none⟩) (Kd.R_far (p := ⟨gb129, 4, none⟩) (Kd.R_far (p := ⟨gb129, 3, none⟩) (Kd.R_far (p := ⟨gb129, 2, none⟩) (Kd.R_far (p := ⟨gb129, 1, none⟩) (Kd.R_far (p := ⟨gb129, 0, none⟩) (Kd.R_types HO119.out BK129.out (by decide)) (fun _ hk => hk.2) (.slice Ao85 t121.length co85)) (fun _ hk => hk.2) (.string t124)) (fun _ hk => hk.2) (.int .i64 t125)) (fun _ hk => hk.2) (.int .i64 t126)) (fun _ hk => hk.2) (.int .i64 t127)) (fun _ hk => hk.2) (.int .i64 t128)) (fun _ h_ => h_.1)))); (case side2 => exact (Kd.R_reads' HO119.out).2.1); (case side3 => refine (Kd.R_reads' (e := 2) (base := w.heap.size) (ok := fun k_ => (True ∧ some k_ ≠ (.slice Ao73 t108.length co73 : Value).ownBlock)) (n := t121.length) (c := co85) ?_).2.2; exact (by (with_reducible repeat (first | apply Kd.R_alloc | apply Kd.R_drewN | apply Kd.R_drew)); exact (Kd.R_mono (Kd.R_far (p := ⟨gb129, 5, none⟩) (Kd.R_far (p := ⟨gb129, 4, none⟩) (Kd.R_far (p := ⟨gb129, 3, none⟩) (Kd.R_far (p := ⟨gb129, 2, none⟩) (Kd.R_far (p := ⟨gb129, 1, none⟩) (Kd.R_far (p := ⟨gb129, 0, none⟩) (Kd.R_types HO123.out BK129.out (by decide)) (fun _ hk => hk.2) (.slice Ao85 t121.length co85)) (fun _ hk => hk.2) (.string t124)) (fun _ hk => hk.2) (.int .i64 t125)) (fun _ hk => hk.2) (.int .i64 t126)) (fun _ hk => hk.2) (.int .i64 t127)) (fun _ hk => hk.2) (.int .i64 t128)) (fun _ h_ => h_.1)))); (case side4 => exact (Kd.R_reads' HO123.out).2.1); rintro e w91 ⟨rfl, hb⟩; refine ⟨_, rfl, ?_⟩; replace HO107 := Aside0.mk (Kd.R_below (by (with_reducible repeat (first | apply Kd.R_alloc | apply Kd.R_drewN | apply Kd.R_drew)); exact (Kd.R_mono (Kd.R_far (p := ⟨gb129, 5, none⟩) (Kd.R_far (p := ⟨gb129, 4, none⟩) (Kd.R_far (p := ⟨gb129, 3, none⟩) (Kd.R_far (p := ⟨gb129, 2, none⟩) (Kd.R_far (p := ⟨gb129, 1, none⟩) (Kd.R_far (p := ⟨gb129, 0, none⟩) (Kd.R_types HO107.out BK129.out (by decide)) (fun _ hk => hk.2) (.slice Ao85 t121.length co85)) (fun _ hk => hk.2) (.string t124)) (fun _ hk => hk.2) (.int .i64 t125)) (fun _ hk => hk.2) (.int .i64 t126)) (fun _ hk => hk.2) (.int .i64 t127)) (fun _ hk => hk.2) (.int .i64 t128)) (fun _ h_ => h_.1))) hb); replace HO110 := Aside0.mk (Kd.R_below (by (with_reducible repeat (first | apply Kd.R_alloc | apply Kd.R_drewN | apply Kd.R_drew)); exact (Kd.R_mono (Kd.R_far (p := ⟨gb129, 5, none⟩) (Kd.R_far (p := ⟨gb129, 4, none⟩) (Kd.R_far (p := ⟨gb129, 3, none⟩) (Kd.R_far (p := ⟨gb129, 2, none⟩) (Kd.R_far (p := ⟨gb129, 1, none⟩) (Kd.R_far (p := ⟨gb129, 0, none⟩) (Kd.R_types HO110.out BK129.out (by decide)) (fun _ hk => hk.2) (.slice Ao85 t121.length co85)) (fun _ hk => hk.2) (.string t124)) (fun _ hk => hk.2) (.int .i64 t125)) (fun _ hk => hk.2) (.int .i64 t126)) (fun _ hk => hk.2) (.int .i64 t127)) (fun _ hk => hk.2) (.int .i64 t128)) (fun _ h_ => h_.1))) hb); replace HO119 := Aside0.mk (Kd.R_below (by (with_reducible repeat (first | apply Kd.R_alloc | apply Kd.R_drewN | apply Kd.R_drew)); exact (Kd.R_mono (Kd.R_far (p := ⟨gb129, 5, none⟩) (Kd.R_far (p := ⟨gb129, 4, none⟩) (Kd.R_far (p := ⟨gb129, 3, none⟩) (Kd.R_far (p := ⟨gb129, 2, none⟩) (Kd.R_far (p := ⟨gb129, 1, none⟩) (Kd.R_far (p := ⟨gb129, 0, none⟩) (Kd.R_types HO119.out BK129.out (by decide)) (fun _ hk => hk.2) (.slice Ao85 t121.length co85)) (fun _ hk => hk.2) (.string t124)) (fun _ hk => hk.2) (.int .i64 t125)) (fun _ hk => hk.2) (.int .i64 t126)) (fun _ hk => hk.2) (.int .i64 t127)) (fun _ hk => hk.2) (.int .i64 t128)) (fun _ h_ => h_.1))) hb); replace HO123 := Aside0.mk (Kd.R_below (by (with_reducible repeat (first | apply Kd.R_alloc | apply Kd.R_drewN | apply Kd.R_drew)); exact (Kd.R_mono (Kd.R_far (p := ⟨gb129, 5, none⟩) (Kd.R_far (p := ⟨gb129, 4, none⟩) (Kd.R_far (p := ⟨gb129, 3, none⟩) (Kd.R_far (p := ⟨gb129, 2, none⟩) (Kd.R_far (p := ⟨gb129, 1, none⟩) (Kd.R_far (p := ⟨gb129, 0, none⟩) (Kd.R_types HO123.out BK129.out (by decide)) (fun _ hk => hk.2) (.slice Ao85 t121.length co85)) (fun _ hk => hk.2) (.string t124)) (fun _ hk => hk.2) (.int .i64 t125)) (fun _ hk => hk.2) (.int .i64 t126)) (fun _ hk => hk.2) (.int .i64 t127)) (fun _ hk => hk.2) (.int .i64 t128)) (fun _ h_ => h_.1))) hb); replace BK101 := Aside0.mk (blk_below (g := gb101) (o := .cells #[.slice A0_0 l0_0.length c0_0] 41 (0, 0)) (by (with_reducible repeat (first | refine blk_drewN ?_ _ | refine blk_drew ?_ | refine blk_alloc ?_ _)); refine blk_far ?_ NB101_129.out _; (with_reducible repeat (first | refine blk_drewN ?_ _ | refine blk_drew ?_ | refine blk_alloc ?_ _)); refine blk_far ?_ NB101_129.out _; (with_reducible repeat (first | refine blk_drewN ?_ _ | refine blk_drew ?_ | refine blk_alloc ?_ _)); refine blk_far ?_ NB101_129.out _; (with_reducible repeat (first | refine blk_drewN ?_ _ | refine blk_drew ?_ | refine blk_alloc ?_ _)); refine blk_far ?_ NB101_129.out _; (with_reducible repeat (first | refine blk_drewN ?_ _ | refine blk_drew ?_ | refine blk_alloc ?_ _)); refine blk_far ?_ NB101_129.out _; (with_reducible repeat (first | refine blk_drewN ?_ _ | refine blk_drew ?_ | refine blk_alloc ?_ _)); refine blk_far ?_ NB101_129.out _; (with_reducible repeat (first | refine blk_drewN ?_ _ | refine blk_drew ?_ | refine blk_alloc ?_ _)); exact BK101.out) hb); replace BK102 := Aside0.mk (blk_below (g := gb102) (o := .cells #[.slice A1_0 l1_0.length c1_0, .string a1_1, .int .i64 a1_2, .int .i64 a1_3, .int .i64 a1_4, .int .i64 a1_5] 58 (0, 0)) (by (with_reducible repeat (first | refine blk_drewN ?_ _ | refine blk_drew ?_ | refine blk_alloc ?_ _)); refine blk_far ?_ NB102_129.out _; (with_reducible repeat (first | refine blk_drewN ?_ _ | refine blk_drew ?_ | refine blk_alloc ?_ _)); refine blk_far ?_ NB102_129.out _; (with_reducible repeat (first | refine blk_drewN ?_ _ | refine blk_drew ?_ | refine blk_alloc ?_ _)); refine blk_far ?_ NB102_129.out _; (with_reducible repeat (first | refine blk_drewN ?_ _ | refine blk_drew ?_ | refine blk_alloc ?_ _)); refine blk_far ?_ NB102_129.out _; (with_reducible repeat (first | refine blk_drewN ?_ _ | refine blk_drew ?_ | refine blk_alloc ?_ _)); refine blk_far ?_ NB102_129.out _; (with_reducible repeat (first | refine blk_drewN ?_ _ | refine blk_drew ?_ | refine blk_alloc ?_ _)); refine blk_far ?_ NB102_129.out _; (with_reducible repeat (first | refine blk_drewN ?_ _ | refine blk_drew ?_ | refine blk_alloc ?_ _)); exact BK102.out) hb); replace BK120 := Aside0.mk (blk_below (g := gb120) (o := .cells #[.slice Ao78 t117.length co78] 46 (0, 0)) (by (with_reducible repeat (first | refine blk_drewN ?_ _ | refine blk_drew ?_ | refine blk_alloc ?_ _)); refine blk_far ?_ NB120_129.out _; (with_reducible repeat (first | refine blk_drewN ?_ _ | refine blk_drew ?_ | refine blk_alloc ?_ _)); refine blk_far ?_ NB120_129.out _; (with_reducible repeat (first | refine blk_drewN ?_ _ | refine blk_drew ?_ | refine blk_alloc ?_ _)); refine blk_far ?_ NB120_129.out _; (with_reducible repeat (first | refine blk_drewN ?_ _ | refine blk_drew ?_ | refine blk_alloc ?_ _)); refine blk_far ?_ NB120_129.out _; (with_reducible repeat (first | refine blk_drewN ?_ _ | refine blk_drew ?_ | refine blk_alloc ?_ _)); refine blk_far ?_ NB120_129.out _; (with_reducible repeat (first | refine blk_drewN ?_ _ | refine blk_drew ?_ | refine blk_alloc ?_ _)); refine blk_far ?_ NB120_129.out _; (with_reducible repeat (first | refine blk_drewN ?_ _ | refine blk_drew ?_ | refine blk_alloc ?_ _)); exact BK120.out) hb); replace BK129 := Aside0.mk (blk_below (g := gb129) (o := .cells #[.slice Ao85 t121.length co85, .string t124, .int .i64 t125, .int .i64 t126, .int .i64 t127, .int .i64 t128] 61 (0, 0)) (by (with_reducible repeat (first | refine blk_drewN ?_ _ | refine blk_drew ?_ | refine blk_alloc ?_ _)); refine blk_put (cs := #[.slice Ao85 t121.length co85, .string t124, .int .i64 t125, .int .i64 t126, .int .i64 t127, .int .i64 0]) ?_ 5 _ rfl; (with_reducible repeat (first | refine blk_drewN ?_ _ | refine blk_drew ?_ | refine blk_alloc ?_ _)); refine blk_put (cs := #[.slice Ao85 t121.length co85, .string t124, .int .i64 t125, .int .i64 t126, .int .i64 0, .int .i64 0]) ?_ 4 _ rfl; (with_reducible repeat (first | refine blk_drewN ?_ _ | refine blk_drew ?_ | refine blk_alloc ?_ _)); refine blk_put (cs := #[.slice Ao85 t121.length co85, .string t124, .int .i64 t125, .int .i64 0, .int .i64 0, .int .i64 0]) ?_ 3 _ rfl; (with_reducible repeat (first | refine blk_drewN ?_ _ | refine blk_drew ?_ | refine blk_alloc ?_ _)); refine blk_put (cs := #[.slice Ao85 t121.length co85, .string t124, .int .i64 0, .int .i64 0, .int .i64 0, .int .i64 0]) ?_ 2 _ rfl; (with_reducible repeat (first | refine blk_drewN ?_ _ | refine blk_drew ?_ | refine blk_alloc ?_ _)); refine blk_put (cs := #[.slice Ao85 t121.length co85, .string (⟨#[]⟩ : ByteArray), .int .i64 0, .int .i64 0, .int .i64 0, .int .i64 0]) ?_ 1 _ rfl; (with_reducible repeat (first | refine blk_drewN ?_ _ | refine blk_drew ?_ | refine blk_alloc ?_ _)); refine blk_put (cs := #[.slice none 0 0, .string (⟨#[]⟩ : ByteArray), .int .i64 0, .int .i64 0, .int .i64 0, .int .i64 0]) ?_ 0 _ rfl; (with_reducible repeat (first | refine blk_drewN ?_ _ | refine blk_drew ?_ | refine blk_alloc ?_ _)); exact BK129.out) hb); replace HB := Aside0.mk (below_step (by repeat (first | (with_reducible first | exact HB.out | apply below_alloc | apply pw_below_drewN | apply below_drew1 | refine below_set ?_ GE101.out | refine below_set ?_ GE102.out | refine below_set ?_ GE120.out | refine below_set ?_ GE129.out) | exact HB.out)) hb); (try clear hb)))
      replace HO107 := Aside0.mk (Kd.R_drew HO107.out)
      replace HO110 := Aside0.mk (Kd.R_drew HO110.out)
      replace HO119 := Aside0.mk (Kd.R_drew HO119.out)
      replace HO123 := Aside0.mk (Kd.R_drew HO123.out)
      replace BK101 := Aside0.mk (blk_drew BK101.out)
      replace BK102 := Aside0.mk (blk_drew BK102.out)
      replace BK120 := Aside0.mk (blk_drew BK120.out)
      replace BK129 := Aside0.mk (blk_drew BK129.out)
      replace HB := Aside0.mk (below_drew1 HB.out)
      refine start_ (n := 5) (S := fun w' => w'.cell? ⟨gb120, 0, none⟩ = some (.slice Ao78 t117.length co78) ∧ w'.cell? ⟨gb101, 0, none⟩ = some (.slice A0_0 l0_0.length c0_0)) (ds := []) #[false, false, false, false, false] (by kernel_rfl) rfl rfl ⟨(blk_cell BK120.out 0).trans rfl, (blk_cell BK101.out 0).trans rfl⟩ (fun hHeld => ?_)
      generalize w91.drew = w92 at HO107 HO110 HO119 HO123 BK101 BK102 BK120 BK129 HB hHeld ⊢
      refine take_ (i := 0) (N := some 35) (v := ?_) (a' := ?_) #[true, false, false, false, false] rfl rfl (by kernel_rfl) (fun _ _ _ h => h) (Or.inl ⟨by rfl, ?_⟩) hHeld ?_ ?_
      rotate_left
      ·rintro w' ⟨s0, s1⟩
       go_simp
       with_reducible rfl
      rotate_left
      ·simp only [Act.put, List.setIfInBounds_toArray, List.set_cons_zero, List.set_cons_succ, i64_w, i32_w]
       rfl
      refine take_ (i := 1) (N := some 36) (v := ?_) (a' := ?_) #[true, true, false, false, false] rfl rfl (by kernel_rfl) (fun _ _ _ h => h) (Or.inl ⟨by rfl, ?_⟩) hHeld ?_ ?_
      rotate_left
      ·rintro w' ⟨s0, s1⟩
       go_simp
       with_reducible rfl
      rotate_left
      ·simp only [Act.put, List.setIfInBounds_toArray, List.set_cons_zero, List.set_cons_succ, i64_w, i32_w]
       rfl
      refine one_ (i := 2) (N := some 37) (bb 5 7) rfl rfl (by kernel_rfl) (by decide) (fun K hK => ?_)
      refine gs_ Try.func27 #[.agg #[.slice A0_0 l0_0.length c0_0]] ?_
      with_reducible refine (laws_toGrammar.calls k _ _ l0_0 t131 _ ?side1 ?side2 A56.out).mono ?_
      (case side1 => exact Kd.C_below HR0_0.out (be_ HB.out))
      (case side2 => exact HC0_0.out)
      rintro e w93 ⟨v132, rfl, ho0, hb⟩
      refine ⟨_, rfl, ?_⟩
      have HO133 := Aside0.mk (Kd.R_lower (Kd.R_new' (Kd.R_new' (Kd.R_new' (Kd.R_new' ho0 (Kd.R_lt (ra_ HO107.out))) (Kd.R_lt (ra_ HO110.out))) (Kd.R_lt (ra_ HO119.out))) (Kd.R_lt (ra_ HO123.out))) (below_size (by repeat (first | (with_reducible first | exact HB.out | apply below_alloc | apply pw_below_drewN | apply below_drew1 | refine below_set ?_ GE101.out | refine below_set ?_ GE102.out | refine below_set ?_ GE120.out | refine below_set ?_ GE129.out) | exact HB.out))))
      replace HO107 := Aside0.mk (Kd.R_elder' (ra_ HO107.out) (Kd.R_base ho0) hb)
      replace HO110 := Aside0.mk (Kd.R_below (ra_ HO110.out) hb)
      replace HO119 := Aside0.mk (Kd.R_elder' (ra_ HO119.out) (Kd.R_base ho0) hb)
      replace HO123 := Aside0.mk (Kd.R_below (ra_ HO123.out) hb)
      replace BK101 := lb_ BK101 hb
      replace BK102 := lb_ BK102 hb
      replace BK120 := lb_ BK120 hb
      replace BK129 := lb_ BK129 hb
      replace HB := Aside0.mk (below_step (by repeat (first | (with_reducible first | exact HB.out | apply below_alloc | apply pw_below_drewN | apply below_drew1 | refine below_set ?_ GE101.out | refine below_set ?_ GE102.out | refine below_set ?_ GE120.out | refine below_set ?_ GE129.out) | exact HB.out)) hb)
      (try clear hb)
      (try clear hb2)
      (try clear hk)
      (try clear hi)
      (try clear ho0)
      obtain ⟨Ao94, co94, eo94⟩ := Kd.R_slice HO133.out
      (first | subst eo94 | (injection eo94 with f1_ f2_ f3_; have f4_ := f1_.symm; have f5_ := f3_.symm; clear f1_ f2_ f3_; subst f4_; subst f5_))
      refine hK.out _ _ ⟨(blk_cell BK120.out 0).trans rfl, (blk_cell BK101.out 0).trans rfl⟩ (fun hHeld => ?_)
      clear hK K
      refine no_ (some 37) ?_
      refine one_ (i := 3) (N := some 38) (bb 5 15) rfl rfl (by kernel_rfl) (by decide) (fun K hK => ?_)
      refine gs_ Try.func29 #[.agg #[.slice Ao78 t117.length co78], .agg #[.slice Ao94 t131.length co94]] ?_
      with_reducible refine (laws_eqGrammar.calls k _ _ t117 _ _ t131 true _ ?side1 ?side2 ?side3 ?side4 A57.out).mono ?_
      (case side1 => repeat (first | exact (Kd.R_reads' HO119.out).2.2 | (with_reducible refine Kd.C_alloc ?_ _) | (with_reducible refine Kd.C_drewN ?_ _) | (with_reducible refine Kd.C_drew ?_)))
      (case side2 => exact (Kd.R_reads' HO119.out).2.1)
      (case side3 => repeat (first | exact (Kd.R_reads' HO133.out).2.2 | (with_reducible refine Kd.C_alloc ?_ _) | (with_reducible refine Kd.C_drewN ?_ _) | (with_reducible refine Kd.C_drew ?_)))
      (case side4 => exact (Kd.R_reads' HO133.out).2.1)
      rintro e w95 ⟨rfl, hb⟩
      refine ⟨_, rfl, ?_⟩
      replace HO107 := Aside0.mk (Kd.R_below (ra_ HO107.out) hb)
      replace HO110 := Aside0.mk (Kd.R_below (ra_ HO110.out) hb)
      replace HO119 := Aside0.mk (Kd.R_below (ra_ HO119.out) hb)
      replace HO123 := Aside0.mk (Kd.R_below (ra_ HO123.out) hb)
      replace HO133 := Aside0.mk (Kd.R_below (ra_ HO133.out) hb)
      replace BK101 := lb_ BK101 hb
      replace BK102 := lb_ BK102 hb
      replace BK120 := lb_ BK120 hb
      replace BK129 := lb_ BK129 hb
      replace HB := Aside0.mk (below_step (by repeat (first | (with_reducible first | exact HB.out | apply below_alloc | apply pw_below_drewN | apply below_drew1 | refine below_set ?_ GE101.out | refine below_set ?_ GE102.out | refine below_set ?_ GE120.out | refine below_set ?_ GE129.out) | exact HB.out)) hb)
      (try clear hb)
      (try clear hb2)
      (try clear hk)
      (try clear hi)
      refine hK.out _ _ ⟨(blk_cell BK120.out 0).trans rfl, (blk_cell BK101.out 0).trans rfl⟩ (fun hHeld => ?_)
      clear hK K
      refine no_ (some 38) ?_
      refine pure_ (i := 4) (N := some 39) (v := ?_) (a' := ?_) #[true, true, true, true, true] rfl rfl (by kernel_rfl) (fun _ _ _ h => h) (Or.inl ⟨by rfl, ?_⟩) ?_ ?_
      rotate_left
      ·intro w'
       go_simp
       with_reducible rfl
      rotate_left
      ·simp only [Act.put, List.setIfInBounds_toArray, List.set_cons_zero, List.set_cons_succ, i64_w, i32_w]
       rfl
      refine done_ (by kernel_rfl) ?_
      try go_wp2
      replace HO107 := Aside0.mk (Kd.R_drew HO107.out)
      replace HO110 := Aside0.mk (Kd.R_drew HO110.out)
      replace HO119 := Aside0.mk (Kd.R_drew HO119.out)
      replace HO123 := Aside0.mk (Kd.R_drew HO123.out)
      replace HO133 := Aside0.mk (Kd.R_drew HO133.out)
      replace BK101 := Aside0.mk (blk_drew BK101.out)
      replace BK102 := Aside0.mk (blk_drew BK102.out)
      replace BK120 := Aside0.mk (blk_drew BK120.out)
      replace BK129 := Aside0.mk (blk_drew BK129.out)
      replace HB := Aside0.mk (below_drew1 HB.out)
      refine start_ (n := 5) (S := fun w' => w'.cell? ⟨gb129, 0, none⟩ = some (.slice Ao85 t121.length co85) ∧ w'.cell? ⟨gb129, 1, none⟩ = some (.string t124) ∧ w'.cell? ⟨gb129, 2, none⟩ = some (.int .i64 t125) ∧ w'.cell? ⟨gb129, 3, none⟩ = some (.int .i64 t126) ∧ w'.cell? ⟨gb129, 4, none⟩ = some (.int .i64 t127) ∧ w'.cell? ⟨gb129, 5, none⟩ = some (.int .i64 t128) ∧ w'.cell? ⟨gb102, 0, none⟩ = some (.slice A1_0 l1_0.length c1_0) ∧ w'.cell? ⟨gb102, 1, none⟩ = some (.string a1_1) ∧ w'.cell? ⟨gb102, 2, none⟩ = some (.int .i64 a1_2) ∧ w'.cell? ⟨gb102, 3, none⟩ = some (.int .i64 a1_3) ∧ w'.cell? ⟨gb102, 4, none⟩ = some (.int .i64 a1_4) ∧ w'.cell? ⟨gb102, 5, none⟩ = some (.int .i64 a1_5)) (ds := []) #[false, false, false, false, false] (by kernel_rfl) rfl rfl ⟨(blk_cell BK129.out 0).trans rfl, (blk_cell BK129.out 1).trans rfl, (blk_cell BK129.out 2).trans rfl, (blk_cell BK129.out 3).trans rfl, (blk_cell BK129.out 4).trans rfl, (blk_cell BK129.out 5).trans rfl, (blk_cell BK102.out 0).trans rfl, (blk_cell BK102.out 1).trans rfl, (blk_cell BK102.out 2).trans rfl, (blk_cell BK102.out 3).trans rfl, (blk_cell BK102.out 4).trans rfl, (blk_cell BK102.out 5).trans rfl⟩ (fun hHeld => ?_)
      generalize w95.drew = w96 at HO107 HO110 HO119 HO123 HO133 BK101 BK102 BK120 BK129 HB hHeld ⊢
      refine take_ (i := 0) (N := some 40) (v := ?_) (a' := ?_) #[true, false, false, false, false] rfl rfl (by kernel_rfl) (fun _ _ _ h => h) (Or.inl ⟨by rfl, ?_⟩) hHeld ?_ ?_
      rotate_left
      ·rintro w' ⟨s0, s1, s2, s3, s4, s5, s6, s7, s8, s9, s10, s11⟩
       go_simp
       with_reducible rfl
      rotate_left
      ·simp only [Act.put, List.setIfInBounds_toArray, List.set_cons_zero, List.set_cons_succ, i64_w, i32_w]
       rfl
      refine take_ (i := 1) (N := some 41) (v := ?_) (a' := ?_) #[true, true, false, false, false] rfl rfl (by kernel_rfl) (fun _ _ _ h => h) (Or.inl ⟨by rfl, ?_⟩) hHeld ?_ ?_
      rotate_left
      ·rintro w' ⟨s0, s1, s2, s3, s4, s5, s6, s7, s8, s9, s10, s11⟩
       go_simp
       with_reducible rfl
      rotate_left
      ·simp only [Act.put, List.setIfInBounds_toArray, List.set_cons_zero, List.set_cons_succ, i64_w, i32_w]
       rfl
      refine one_ (i := 2) (N := some 42) (bb 5 7) rfl rfl (by kernel_rfl) (by decide) (fun K hK => ?_)
      refine gs_ Try.func35 #[.agg #[.slice A1_0 l1_0.length c1_0, .string a1_1, .int .i64 a1_2, .int .i64 a1_3, .int .i64 a1_4, .int .i64 a1_5]] ?_
      with_reducible refine (laws_toStream.calls k _ _ l1_0 a1_1 a1_2 a1_3 a1_4 a1_5 t135 t138 t139 t140 t141 t142 _ ?side1 ?side2 A59.out).mono ?_
      (case side1 => exact Kd.C_below HR1_0.out (be_ HB.out))
      (case side2 => exact HC1_0.out)
      rintro e w97 ⟨v136, rfl, ho0, hb⟩
      refine ⟨_, rfl, ?_⟩
      have HO137 := Aside0.mk (Kd.R_lower (Kd.R_new' (Kd.R_new' ho0 (Kd.R_lt (ra_ HO110.out))) (Kd.R_lt (ra_ HO123.out))) (below_size (by repeat (first | (with_reducible first | exact HB.out | apply below_alloc | apply pw_below_drewN | apply below_drew1 | refine below_set ?_ GE101.out | refine below_set ?_ GE102.out | refine below_set ?_ GE120.out | refine below_set ?_ GE129.out) | exact HB.out))))
      replace HO107 := Aside0.mk (Kd.R_elder' (ra_ HO107.out) (Kd.R_base ho0) hb)
      replace HO110 := Aside0.mk (Kd.R_elder' (ra_ HO110.out) (Kd.R_base ho0) hb)
      replace HO119 := Aside0.mk (Kd.R_elder' (ra_ HO119.out) (Kd.R_base ho0) hb)
      replace HO123 := Aside0.mk (Kd.R_elder' (ra_ HO123.out) (Kd.R_base ho0) hb)
      replace HO133 := Aside0.mk (Kd.R_elder' (ra_ HO133.out) (Kd.R_base ho0) hb)
      replace BK101 := lb_ BK101 hb
      replace BK102 := lb_ BK102 hb
      replace BK120 := lb_ BK120 hb
      replace BK129 := lb_ BK129 hb
      replace HB := Aside0.mk (below_step (by repeat (first | (with_reducible first | exact HB.out | apply below_alloc | apply pw_below_drewN | apply below_drew1 | refine below_set ?_ GE101.out | refine below_set ?_ GE102.out | refine below_set ?_ GE120.out | refine below_set ?_ GE129.out) | exact HB.out)) hb)
      (try clear hb)
      (try clear hb2)
      (try clear hk)
      (try clear hi)
      (try clear ho0)
      obtain ⟨Ao98, co98, eo98⟩ := Kd.R_slice HO137.out
      (first | subst eo98 | (injection eo98 with f1_ f2_ f3_; have f4_ := f1_.symm; have f5_ := f3_.symm; clear f1_ f2_ f3_; subst f4_; subst f5_))
      refine hK.out _ _ ⟨(blk_cell BK129.out 0).trans rfl, (blk_cell BK129.out 1).trans rfl, (blk_cell BK129.out 2).trans rfl, (blk_cell BK129.out 3).trans rfl, (blk_cell BK129.out 4).trans rfl, (blk_cell BK129.out 5).trans rfl, (blk_cell BK102.out 0).trans rfl, (blk_cell BK102.out 1).trans rfl, (blk_cell BK102.out 2).trans rfl, (blk_cell BK102.out 3).trans rfl, (blk_cell BK102.out 4).trans rfl, (blk_cell BK102.out 5).trans rfl⟩ (fun hHeld => ?_)
      clear hK K
      refine no_ (some 42) ?_
      refine one_ (i := 3) (N := some 43) (bb 5 15) rfl rfl (by kernel_rfl) (by decide) (fun K hK => ?_)
      refine gs_ Try.func37 #[.agg #[.slice Ao85 t121.length co85, .string t124, .int .i64 t125, .int .i64 t126, .int .i64 t127, .int .i64 t128], .agg #[.slice Ao98 t135.length co98, .string t138, .int .i64 t139, .int .i64 t140, .int .i64 t141, .int .i64 t142]] ?_
      with_reducible refine (laws_eqStream.calls k _ _ t121 t124 t125 t126 t127 t128 _ _ t135 t138 t139 t140 t141 t142 true _ ?side1 ?side2 ?side3 ?side4 A60.out).mono ?_
      (case side1 => repeat (first | exact (Kd.R_reads' HO123.out).2.2 | (with_reducible refine Kd.C_alloc ?_ _) | (with_reducible refine Kd.C_drewN ?_ _) | (with_reducible refine Kd.C_drew ?_)))
      (case side2 => exact (Kd.R_reads' HO123.out).2.1)
      (case side3 => repeat (first | exact (Kd.R_reads' HO137.out).2.2 | (with_reducible refine Kd.C_alloc ?_ _) | (with_reducible refine Kd.C_drewN ?_ _) | (with_reducible refine Kd.C_drew ?_)))
      (case side4 => exact (Kd.R_reads' HO137.out).2.1)
      rintro e w99 ⟨rfl, hb⟩
      refine ⟨_, rfl, ?_⟩
      replace HO107 := Aside0.mk (Kd.R_below (ra_ HO107.out) hb)
      replace HO110 := Aside0.mk (Kd.R_below (ra_ HO110.out) hb)
      replace HO119 := Aside0.mk (Kd.R_below (ra_ HO119.out) hb)
      replace HO123 := Aside0.mk (Kd.R_below (ra_ HO123.out) hb)
      replace HO133 := Aside0.mk (Kd.R_below (ra_ HO133.out) hb)
      replace HO137 := Aside0.mk (Kd.R_below (ra_ HO137.out) hb)
      replace BK101 := lb_ BK101 hb
      replace BK102 := lb_ BK102 hb
      replace BK120 := lb_ BK120 hb
      replace BK129 := lb_ BK129 hb
      replace HB := Aside0.mk (below_step (by repeat (first | (with_reducible first | exact HB.out | apply below_alloc | apply pw_below_drewN | apply below_drew1 | refine below_set ?_ GE101.out | refine below_set ?_ GE102.out | refine below_set ?_ GE120.out | refine below_set ?_ GE129.out) | exact HB.out)) hb)
      (try clear hb)
      (try clear hb2)
      (try clear hk)
      (try clear hi)
      refine hK.out _ _ ⟨(blk_cell BK129.out 0).trans rfl, (blk_cell BK129.out 1).trans rfl, (blk_cell BK129.out 2).trans rfl, (blk_cell BK129.out 3).trans rfl, (blk_cell BK129.out 4).trans rfl, (blk_cell BK129.out 5).trans rfl, (blk_cell BK102.out 0).trans rfl, (blk_cell BK102.out 1).trans rfl, (blk_cell BK102.out 2).trans rfl, (blk_cell BK102.out 3).trans rfl, (blk_cell BK102.out 4).trans rfl, (blk_cell BK102.out 5).trans rfl⟩ (fun hHeld => ?_)
      clear hK K
      refine no_ (some 43) ?_
      refine pure_ (i := 4) (N := some 44) (v := ?_) (a' := ?_) #[true, true, true, true, true] rfl rfl (by kernel_rfl) (fun _ _ _ h => h) (Or.inl ⟨by rfl, ?_⟩) ?_ ?_
      rotate_left
      ·intro w'
       go_simp
       with_reducible rfl
      rotate_left
      ·simp only [Act.put, List.setIfInBounds_toArray, List.set_cons_zero, List.set_cons_succ, i64_w, i32_w]
       rfl
      refine done_ (by kernel_rfl) ?_
      try go_wp2
      go_ret
      exact ⟨rt_, by repeat (first | (with_reducible first | exact HB.out | apply below_alloc | apply pw_below_drewN | apply below_drew1 | refine below_set ?_ GE101.out | refine below_set ?_ GE102.out | refine below_set ?_ GE120.out | refine below_set ?_ GE129.out) | exact HB.out)⟩
     ·replace c61 := Bool.eq_false_iff.mpr c61
      subst c61
      rw [if_neg nft_] at H
      exact absurd H (by simp)
    ·replace c58 := Bool.eq_false_iff.mpr c58
     subst c58
     rw [if_neg nft_] at H
     exact absurd H (by simp)
end Go.Proofs.Ytijmhelacmjggaa.P
namespace Go.Proofs.YtijmhelacmjggaaOpen
open Go.RowKit Go.ChangeShapes Go.WideShapes Go.Proofs.YtijmhelacmjggaaW.PrintWords
set_option linter.unusedVariables false
set_option linter.unusedSimpArgs false
structure Opens {α : Type} (P : Program) (t : TypeId) (k : Kd α) (G : α → Prop) : Prop where
  sz : P.cellsOf t = k.sz
  op : ∀ {H : Type} (enc : TypeId × Value → H) (w : World) (base : Nat) (spare : Nat → Bool) (held : Bool) (fuel : Nat) (cs : List Value) (x : DataW H × List MemPlace), DataW.trod enc P w base spare held fuel t cs = some x → ∃ v, k.K w v cs ∧ G v
variable {P : Program} {t e : TypeId}
theorem opens_int {k : IntKind} (ht : P.underlying t = some (.int k)) (hc : P.cellsOf t = 1) : Opens P t (Kd.int k) (fun n => (Lit.int k n).wf = true) where
  sz := hc
  op := fun enc w base spare held fuel cs x h => by
    obtain ⟨n, rfl, _, hw⟩ := DataW.trod_int ht h
    exact ⟨n, rfl, hw⟩
theorem opens_bool (ht : P.underlying t = some .bool) (hc : P.cellsOf t = 1) : Opens P t Kd.bool (fun _ => True) where
  sz := hc
  op := fun enc w base spare held fuel cs x h => by
    obtain ⟨b, rfl, _⟩ := DataW.trod_bool ht h
    exact ⟨b, rfl, trivial⟩
theorem opens_string (ht : P.underlying t = some .string) (hc : P.cellsOf t = 1) : Opens P t Kd.string (fun s => s.size ≤ maxLen) where
  sz := hc
  op := fun enc w base spare held fuel cs x h => by
    obtain ⟨s, rfl, _, hs⟩ := DataW.trod_string ht h
    exact ⟨s, rfl, hs⟩
theorem exists_list {α : Type} {p : Nat → α → Prop} : ∀ n, (∀ i, i < n → ∃ v, p i v) → ∃ xs : List α, xs.length = n ∧ ∀ i v, xs[i]? = some v → p i v
  | 0, _ => ⟨[], rfl, fun i v h => by simp at h⟩
  | n + 1, h => by
    obtain ⟨xs, hl, hx⟩ := exists_list n (fun i hi => h i (by omega))
    obtain ⟨v, hv⟩ := h n (by omega)
    refine ⟨xs ++ [v], by simp [hl], fun i u hu => ?_⟩
    by_cases hi : i < n
    · rw [List.getElem?_append_left (by omega)] at hu
      exact hx i u hu
    · rw [List.getElem?_append_right (by omega)] at hu
      have : i - xs.length = 0 := by
        have := (List.getElem?_eq_some_iff.1 hu).1
        simp at this
        omega
      rw [this] at hu
      have hi' : i = n := by omega
      subst hi'
      simp at hu
      subst hu
      exact hv
theorem opens_slice {α : Type} {k : Kd α} {G : α → Prop} (ht : P.underlying t = some (.slice e)) (hc : P.cellsOf t = 1) (h : Opens P e k G) : Opens P t (Kd.slice e k) (fun xs => xs.length ≤ maxLen ∧ ∀ x ∈ xs, G x) where
  sz := hc
  op := fun enc w base spare held fuel cs x hx => by
    rcases DataW.trod_slice ht hx with ⟨rfl, rfl⟩ | ⟨a, len, cap, elems, rest, n, _, rfl, _, _, hl, hm, hlen, hel, _, _⟩
    · exact ⟨[], ⟨none, 0, rfl, Nat.le_refl _, Kd.C_nil k w⟩, by simp, fun x hx => absurd hx List.not_mem_nil⟩
    · have each : ∀ i, i < len → ∃ v, G v ∧ ∃ c, c.length = k.sz ∧ k.K w v c ∧ ∀ j u, c[j]? = some u → w.cell? (a.add (i * k.sz + j)) = some u := by
        intro i hi
        have h1 := hel i hi
        rw [List.getElem?_eq_getElem (by omega), Option.bind_eq_some_iff, h.sz] at h1
        obtain ⟨c, hc1, hc2⟩ := h1
        obtain ⟨v, hv, hg⟩ := h.op enc w base spare held n c _ hc2
        obtain ⟨_, hcl, hcell⟩ := World.cells?_some hc1
        refine ⟨v, hg, c, hcl, hv, fun j u hu => ?_⟩
        have hj : j < k.sz := by
          have := (List.getElem?_eq_some_iff.1 hu).1
          omega
        rw [← Addr.add_add, hcell j hj]
        exact hu
      obtain ⟨xs, hxl, hx⟩ := exists_list len each
      have hmx : (maxLen : Nat) ≤ 9223372036854775807 := by unfold maxLen; omega
      refine ⟨xs, ⟨some a, cap, by rw [hxl], by omega, ?_⟩, by omega, fun x hx' => ?_⟩
      · refine ⟨rfl, by omega, fun _ => ⟨a, rfl, fun j p hp => ?_⟩⟩
        obtain ⟨_, c, h1, h2, h3⟩ := hx j p hp
        exact ⟨c, h1, h2, h3⟩
      · obtain ⟨i, hi⟩ := List.mem_iff_getElem?.1 hx'
        exact (hx i x hi).1
/-- A struct's fields from a cell on. -/
structure Fields {α : Type} (P : Program) (fs : List Field) (off : Nat) (k : Kd α) (G : α → Prop) : Prop where
  from_ : ∀ f ∈ fs, off ≤ f.offset
  op : ∀ {H : Type} (enc : TypeId × Value → H) (w : World) (base : Nat) (spare : Nat → Bool) (held : Bool) (n : Nat) (cs : List Value), cs.length = k.sz → (∀ f ∈ fs, ∃ y, DataW.trod enc P w base spare held n f.type ((cs.drop (f.offset - off)).take (P.cellsOf f.type)) = some y) → ∃ v, k.K w v cs ∧ G v
theorem fields_one {α : Type} {k : Kd α} {G : α → Prop} {f : Field} (h : Opens P f.type k G) : Fields P [f] f.offset k G where
  from_ := fun g hg => by rw [List.mem_singleton.1 hg]; exact Nat.le_refl _
  op := fun enc w base spare held n cs hl hf => by
    obtain ⟨y, hy⟩ := hf f (by simp)
    rw [Nat.sub_self, List.drop_zero, h.sz, ← hl, List.take_length] at hy
    exact h.op enc w base spare held n cs y hy
theorem fields_cons {α β : Type} {k : Kd α} {k' : Kd β} {G : α → Prop} {G' : β → Prop} {f : Field} {fs : List Field} (h : Opens P f.type k G) (hs : Fields P fs (f.offset + k.sz) k' G') : Fields P (f :: fs) f.offset (Kd.pair k k') (fun x => G x.1 ∧ G' x.2) where
  from_ := fun g hg => by
    rcases List.mem_cons.1 hg with rfl | hg
    · exact Nat.le_refl _
    · have := hs.from_ g hg
      omega
  op := fun enc w base spare held n cs hl hf => by
    have hl' : cs.length = k.sz + k'.sz := hl
    obtain ⟨y, hy⟩ := hf f (by simp)
    rw [Nat.sub_self, List.drop_zero, h.sz] at hy
    obtain ⟨v, hv, hg⟩ := h.op enc w base spare held n _ y hy
    obtain ⟨u, hu, hg'⟩ := hs.op enc w base spare held n (cs.drop k.sz) (by rw [List.length_drop]; omega) (fun g hg => by
      obtain ⟨y, hy⟩ := hf g (by simp [hg])
      refine ⟨y, ?_⟩
      have := hs.from_ g hg
      rw [List.drop_drop, show k.sz + (g.offset - (f.offset + k.sz)) = g.offset - f.offset by omega]
      exact hy)
    exact ⟨(v, u), ⟨cs.take k.sz, cs.drop k.sz, (List.take_append_drop _ _).symm, hv, hu⟩, hg, hg'⟩
theorem opens_struct {α : Type} {k : Kd α} {G : α → Prop} {fs : Array Field} (ht : P.underlying t = some (.struct fs)) (hc : P.cellsOf t = k.sz) (h : Fields P fs.toList 0 k G) : Opens P t k G where
  sz := hc
  op := fun enc w base spare held fuel cs x hx => by
    obtain ⟨xs, n, _, _, hl, hlen, hf⟩ := DataW.trod_struct ht hx
    refine h.op enc w base spare held n cs (hl.trans hc) (fun f hf' => ?_)
    obtain ⟨i, hi⟩ := List.mem_iff_getElem?.1 hf'
    rw [Array.getElem?_toList] at hi
    have h1 := hf i f hi
    have : i < fs.size := by
      have := (Array.getElem?_eq_some_iff.1 hi).1
      exact this
    rw [List.getElem?_eq_getElem (by omega)] at h1
    rw [Nat.sub_zero]
    exact ⟨_, h1⟩
theorem opens_iso {α β : Type} {k : Kd α} {G : α → Prop} (f : β → α) (g : α → β) (hfg : ∀ x, f (g x) = x) (h : Opens P t k G) : Opens P t (Kd.iso k f) (fun y => G (f y)) where
  sz := h.sz
  op := fun enc w base spare held fuel cs x hx => by
    obtain ⟨v, hv, hg⟩ := h.op enc w base spare held fuel cs x hx
    exact ⟨g v, by show k.K w (f (g v)) cs; rw [hfg]; exact hv, by rw [hfg]; exact hg⟩
theorem opens_imp {α : Type} {k : Kd α} {G G' : α → Prop} (h : Opens P t k G) (hg : ∀ x, G x → G' x) : Opens P t k G' where
  sz := h.sz
  op := fun enc w base spare held fuel cs x hx => by
    obtain ⟨v, hv, hh⟩ := h.op enc w base spare held fuel cs x hx
    exact ⟨v, hv, hg v hh⟩
end Go.Proofs.YtijmhelacmjggaaOpen
namespace Go.Proofs.Ytijmhelacmjggaa.P
open Go.RowKit Go.Proofs.YtijmhelacmjggaaW.PrintWords Go.Proofs.YtijmhelacmjggaaW.PrintLast Go.Proofs.YtijmhelacmjggaaEv
set_option linter.unusedVariables false
set_option linter.unusedSimpArgs false
theorem laws_toInt64S_ev (l : List Int) (hl : l.length ≤ 1048576) : Ev (fun k => laws_toInt64S.f k l) l := by
  unfold laws_toInt64S.f
  simp only [ev_ite]
  rw [if_pos (by omega), if_pos (by omega)]
  have h := ev_loop l.length (fun k i => laws_toInt64S.l0 k l (upTo (fun x : Int => x) 0 l i) (i : Nat)) (fun _ => l.map (fun x : Int => x)) ?_ ?_ 0 (by omega)
  · rw [upTo_zero, List.map_id'] at h
    exact h
  · rw [ev_succ, upTo_all]
    simp [laws_toInt64S.l0, ev_some]
  · intro i hi ih
    rw [ev_succ]
    simp only [laws_toInt64S.l0, ev_ite]
    rw [if_pos (by omega), if_pos (by omega), if_pos (by rw [upTo_length _ _ _ _ (by omega)]; omega), wrap_succ hi (by omega)]
    have := upTo_set (fun x : Int => x) 0 l 0 i hi
    have e : l.getD i 0 = rd l i := by simp [rd]
    rw [e] at this
    simp only [Int.toNat_natCast]
    rw [this]
    exact ih
theorem laws_eqInt64S_ev (l : List Int) (hl : l.length ≤ 9223372036854775807) : Ev (fun k => laws_eqInt64S.f k l l) true := by
  unfold laws_eqInt64S.f
  simp only [ev_ite]
  rw [if_pos trivial]
  refine ev_loop l.length (fun k i => laws_eqInt64S.l0 k l l (i : Nat)) (fun _ => true) ?_ ?_ 0 (by omega)
  · rw [ev_succ]
    simp [laws_eqInt64S.l0, ev_some]
  · intro i hi ih
    rw [ev_succ]
    simp only [laws_eqInt64S.l0, if_true, ev_ite]
    rw [if_pos (by omega), if_pos (by omega), wrap_succ hi (by omega), if_pos (by omega)]
    exact ih
theorem laws_szInt64S_eq (l : List Int) (a : Int) (hl : l.length ≤ 9223372036854775807) (h0 : 0 ≤ a) (h1 : a ≤ 1048576) : laws_szInt64S.f l a = some (if a < l.length then -1 else a - l.length) := by
  unfold laws_szInt64S.f
  rw [wrap_id (by omega) (by omega)]
  split <;> split <;> first | rfl | omega
end Go.Proofs.Ytijmhelacmjggaa.P
