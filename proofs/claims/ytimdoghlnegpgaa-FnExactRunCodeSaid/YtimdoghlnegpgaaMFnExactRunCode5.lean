/- The law FnExactRunCode holds for every call: part 6 of 6 of the proof (the row). Conditions: none beyond what the given row says. -/
import Derived.Test.YtimdoghlnegpgaaMFnExactRunCode3
import Derived.Shelf.Abstract
import Derived.Lib.Hide
import Derived.Test.YtimdoghlnegpgaaMFnExactRunCode0
import Derived.Test.YtimdoghlnegpgaaMFnExactRunCode4
import Derived.Test.YtimdoghlnegpgaaMFnExactRunCode1
import Derived.ChangeSlices
import Derived.ChangeArms
import Derived.Test.YtimdoghlnegpgaaMFnExactRunCode2
import Derived.SizedLaws
import Derived.Test.YtimdoghlnegpgaaRows
import Derived.WalkKit
import Derived.ProofKit
import Derived.OpenShut
import Derived.ShutString
import Derived.ChangeOld
import Derived.Below
/- The walk of impl.CodeOk with its closure: what slices.IndexFunc and slices.ContainsFunc answer at blocks of code, for whatever predicate; what the closure answers. -/
namespace Go.Proofs.Ytimdoghlnegpgaa.P
open Go.RowKit Go.Shelf Go.Proofs.YtimdoghlnegpgaaW.PrintWords Go.Proofs.YtimdoghlnegpgaaW.PrintLast Go.Proofs.YtimdoghlnegpgaaW.PrintMore Go.Proofs.YtimdoghlnegpgaaEv
set_option linter.unusedVariables false
set_option linter.unusedSimpArgs false

theorem IndexFunc_CBlock (g : Nat) (lb : Array Value) (eg : ∀ args w, (callFunc g args).run Try.prog w = .ok (.enter g args) w) (p : S99 → Bool) (A0 : Option Addr) (c0 : Nat) (l0 : List S99) (w : World) (hr0 : Kd.C k99 w A0 l0.length l0)
    (hp : ∀ (W : World) (x : S99) (A : Option Addr) (c : Nat), x ∈ l0 → Below w.heap.size w W → Kd.C k117 W A x.f1.length x.f1 → x.f1.length ≤ c → Calls Try.prog g (#[.agg #[.int .i64 x.f0, .slice A x.f1.length c, .int .i64 x.f2]] ++ lb) W fun e w' => e = .returned (.bool (p x)) ∧ Below W.heap.size W w') :
    Calls Try.prog 100 #[.slice A0 l0.length c0, .func (.func g) #[] lb] w fun e w' => e = .returned (.int .i64 (idxP p l0 0)) ∧ Below w.heap.size w w' := by
  have hn := hr0.2.1
  have HP := Lib.hid hp
  clear hp
  have HR := Aside0.mk hr0
  clear hr0
  go_enter Try.func100, Try.ntmps100
  go_wp2
  go_loopg [5, 8] l0.length (fun gg _ s8 wr => ∃ kk : Nat, kk ≤ l0.length ∧ l0.length - kk ≤ gg ∧ s8 = .int .i64 kk ∧ Aside0 (Below w.heap.size w wr) ∧ Aside0 (idxP p l0 0 = idxP p (l0.drop kk) kk))
  case atStart => exact ⟨0, Nat.zero_le _, by omega, rfl, ⟨Below.refl _ w⟩, ⟨by simp⟩⟩
  case round =>
    obtain ⟨kk, hkk, hg, rfl, BW, HA⟩ := hrel
    by_cases hlt : kk < l0.length
    · have hltz : (kk : Int) < (l0.length : Int) := by omega
      obtain ⟨ad, A1, c1, rfl, hx0, hx1, hx2, hl1, hi1⟩ := at_T99 HR.out (kk : Int) (by omega) hltz
      rw [Int.toNat_natCast] at hx0 hx1 hx2
      replace hx0 := (BW.out.cell (World.block_lt_of_cell? w _ hx0)).trans hx0
      replace hx1 := (BW.out.cell (World.block_lt_of_cell? w _ hx1)).trans hx1
      replace hx2 := (BW.out.cell (World.block_lt_of_cell? w _ hx2)).trans hx2
      have hmem : rd_T99 l0 (kk : Int) ∈ l0 := by
        unfold rd_T99
        rw [List.getD_eq_getElem?_getD, List.getElem?_eq_getElem (by simpa using hlt)]
        exact List.getElem_mem _
      have hcall := HP.out wr (rd_T99 l0 (kk : Int)) A1 c1 hmem BW.out (Kd.C_below hi1 BW.out) hl1
      have hstep : Aside0 (idxP p l0 0 = if p (rd_T99 l0 (kk : Int)) then (kk : Int) else idxP p (l0.drop (kk + 1)) ((kk + 1 : Nat) : Int)) := ⟨by
        rw [HA.out, drop_cons l0 z99 kk hlt]
        have hr : l0.getD kk z99 = rd_T99 l0 (kk : Int) := by simp [rd_T99]
        rw [hr]
        rfl⟩
      clear hmem hi1 hl1
      generalize rd_T99 l0 (kk : Int) = y at *
      cases hq : p y with
      | true =>
        rw [hq] at hcall
        have hs2 : Aside0 (idxP p l0 0 = (kk : Int)) := ⟨by rw [hstep.out, hq]; rfl⟩
        clear hstep hq HA
        go_wp2_with (go_at_fn g; refine hcall.mono ?_; rintro e w' ⟨rfl, hb'⟩)
        go_ret
        exact ⟨by (rw [hs2.out]; try rfl), below_then BW.out BW.out.size hb'⟩
      | false =>
        rw [hq] at hcall
        have hs2 : Aside0 (idxP p l0 0 = idxP p (l0.drop (kk + 1)) ((kk + 1 : Nat) : Int)) := ⟨by rw [hstep.out, hq]; rfl⟩
        clear hstep hq HA
        go_wp2_with (go_at_fn g; refine hcall.mono ?_; rintro e w' ⟨rfl, hb'⟩)
        go_roundg (l0.length - (kk + 1))
        case measure => omega
        case rel => exact ⟨kk + 1, by omega, by omega, by go_num, ⟨below_then BW.out BW.out.size hb'⟩, hs2⟩
    · have hltz : ¬ (kk : Int) < (l0.length : Int) := by omega
      have hk : kk = l0.length := by omega
      have hs2 : Aside0 (idxP p l0 0 = -1) := ⟨by rw [HA.out, hk]; simp [idxP]⟩
      clear hk HA
      go_wp2
      go_ret
      exact ⟨by (rw [hs2.out]; try rfl), BW.out⟩

theorem ContainsFunc_CBlock (g : Nat) (lb : Array Value) (eg : ∀ args w, (callFunc g args).run Try.prog w = .ok (.enter g args) w) (p : S99 → Bool) (A0 : Option Addr) (c0 : Nat) (l0 : List S99) (w : World) (hr0 : Kd.C k99 w A0 l0.length l0)
    (hp : ∀ (W : World) (x : S99) (A : Option Addr) (c : Nat), x ∈ l0 → Below w.heap.size w W → Kd.C k117 W A x.f1.length x.f1 → x.f1.length ≤ c → Calls Try.prog g (#[.agg #[.int .i64 x.f0, .slice A x.f1.length c, .int .i64 x.f2]] ++ lb) W fun e w' => e = .returned (.bool (p x)) ∧ Below W.heap.size W w') :
    Calls Try.prog 79 #[.slice A0 l0.length c0, .func (.func g) #[] lb] w fun e w' => e = .returned (.bool (l0.any p)) ∧ Below w.heap.size w w' := by
  have hc := IndexFunc_CBlock g lb eg p A0 c0 l0 w hr0 hp
  have ha : l0.any p = decide (0 ≤ idxP p l0 0) := by
    rw [Bool.eq_iff_iff, decide_eq_true_iff, idxP_ge p l0 0 (by omega)]
  rw [ha]
  clear ha hr0 hp
  generalize idxP p l0 0 = i at hc ⊢
  go_enter Try.func79, Try.ntmps79
  go_wp2_with (go_at_call 100; refine hc.mono ?_; rintro e w' ⟨rfl, hb'⟩)
  go_ret
  exact ⟨rfl, hb'⟩

end Go.Proofs.Ytimdoghlnegpgaa.P
/- The walk of impl.CodeOk with its closure: what slices.IndexFunc and slices.ContainsFunc answer at blocks of code, for whatever predicate; what the closure answers. -/
namespace Go.Proofs.Ytimdoghlnegpgaa.P
open Go.RowKit Go.Shelf Go.Proofs.YtimdoghlnegpgaaW.PrintWords Go.Proofs.YtimdoghlnegpgaaW.PrintLast Go.Proofs.YtimdoghlnegpgaaW.PrintMore Go.Proofs.YtimdoghlnegpgaaEv
set_option linter.unusedVariables false
set_option linter.unusedSimpArgs false

set_option maxHeartbeats 400000 in
set_option maxRecDepth 100000 in
/-- The closure of CodeOk: a block that is not right among as many as its variable says. -/
theorem CodeOk_1_calls (many : Int) (h0 : 1 ≤ many) (h1 : many ≤ 1000) (B : Nat) (W : World) (hB : B < W.heap.size) (hcell : W.cell? ⟨B, 0, none⟩ = some (.int .i64 many)) (x : S99) (A : Option Addr) (c : Nat) (hx : Kd.C k117 W A x.f1.length x.f1) (hc : x.f1.length ≤ c) :
    Calls Try.prog 80 #[.agg #[.int .i64 x.f0, .slice A x.f1.length c, .int .i64 x.f2], .pointer (some ⟨B, 0, none⟩)] W fun e w' => e = .returned (.bool (!blockB many x)) ∧ Below W.heap.size W w' := by
  have hl := hx.2.1
  obtain ⟨k, hk⟩ := ev_get (impl_armsOk_ev x.f1 many h0 h1 hl)
  unfold blockB
  have hw1 := Aside0.mk (impl_within_eq x.f0 (-1) 39)
  have hw2 := Aside0.mk (impl_within_eq x.f2 0 (many - 1))
  generalize decide (-1 ≤ x.f0 ∧ x.f0 ≤ 39) = b1 at hw1 ⊢
  generalize decide (0 ≤ x.f2 ∧ x.f2 ≤ many - 1) = b2 at hw2 ⊢
  generalize armsB many x.f1 = b3 at hk ⊢
  have HX := Aside0.mk hx
  have HC := Aside0.mk hc
  have HK := Aside0.mk hk
  clear hx hc hk
  have hne : B ≠ W.heap.size := by omega
  have hb0 : Below W.heap.size W (W.alloc (.cells #[.int .i64 x.f0, .slice A x.f1.length c, .int .i64 x.f2] 99)) := (Below.refl _ _).alloc (Nat.le_refl _) _
  cases b1 with
  | false =>
    go_enter Try.func80, Try.ntmps80
    go_wp2_with (go_at_call 64; refine (impl_within.calls _ _ _ _ _ hw1.out).mono ?_; rintro e w' ⟨rfl, ⟨nd, rfl⟩⟩)
    go_ret
    exact ⟨rfl, by repeat (first | exact hb0 | apply pw_below_drewN | apply below_drew1)⟩
  | true =>
    cases b2 with
    | false =>
      go_enter Try.func80, Try.ntmps80
      go_wp2_with fail
      refine (impl_within.calls _ _ _ _ _ hw1.out).mono ?_
      rintro e w' ⟨rfl, ⟨nd, rfl⟩⟩
      go_wp2_with fail
      refine (impl_within.calls _ _ _ _ _ hw2.out).mono ?_
      rintro e w' ⟨rfl, ⟨nd2, rfl⟩⟩
      go_wp2_with fail
      go_ret
      exact ⟨rfl, by repeat (first | exact hb0 | apply pw_below_drewN | apply below_drew1)⟩
    | true =>
      go_enter Try.func80, Try.ntmps80
      go_wp2_with fail
      refine (impl_within.calls _ _ _ _ _ hw1.out).mono ?_
      rintro e w' ⟨rfl, ⟨nd, rfl⟩⟩
      go_wp2_with fail
      refine (impl_within.calls _ _ _ _ _ hw2.out).mono ?_
      rintro e w' ⟨rfl, ⟨nd2, rfl⟩⟩
      go_wp2_with fail
      refine (impl_armsOk.calls k _ _ x.f1 many b3 _ ?side1 HC.out HK.out).mono ?_
      case side1 => exact Kd.C_below HX.out (by repeat (first | exact hb0 | apply pw_below_drewN | apply below_drew1))
      rintro e w' ⟨rfl, hb2⟩
      go_wp2_with fail
      go_ret
      exact ⟨rfl, below_step (by repeat (first | exact hb0 | apply pw_below_drewN | apply below_drew1)) hb2⟩

end Go.Proofs.Ytimdoghlnegpgaa.P
/- The walk of impl.CodeOk with its closure: what slices.IndexFunc and slices.ContainsFunc answer at blocks of code, for whatever predicate; what the closure answers. -/
namespace Go.Proofs.Ytimdoghlnegpgaa.P
open Go.RowKit Go.Shelf Go.Proofs.YtimdoghlnegpgaaW.PrintWords Go.Proofs.YtimdoghlnegpgaaW.PrintLast Go.Proofs.YtimdoghlnegpgaaW.PrintMore Go.Proofs.YtimdoghlnegpgaaEv
set_option linter.unusedVariables false
set_option linter.unusedSimpArgs false

/-! CodeOk itself. -/
theorem codeB_small {l : List S99} (h : codeB l = true) : 1 ≤ l.length ∧ l.length ≤ 1000 := by
  simp only [codeB, Bool.and_eq_true, decide_eq_true_eq] at h
  exact h.1
set_option maxHeartbeats 400000 in
set_option maxRecDepth 100000 in
theorem CodeOk_hand (A0 : Option Addr) (c0 : Nat) (l0 : List S99) (w : World) (hr0 : Kd.C k99 w A0 l0.length l0) (hc0 : l0.length ≤ c0) :
    Calls Try.prog 44 #[.agg #[.slice A0 l0.length c0]] w fun e w' => e = .returned (.bool (codeB l0)) ∧ Below w.heap.size w w' := by
  have HR := Aside0.mk hr0
  have HC := Aside0.mk hc0
  have hw1 := Aside0.mk (impl_within_eq (l0.length : Int) 1 1000)
  have hsz := Aside0.mk (show impl_CBlock_78.f l0 = some (l0.length : Int) from rfl)
  clear hr0 hc0
  have eg : ∀ args w, (callFunc 80 args).run Try.prog w = .ok (.enter 80 args) w := enters_of Try.func80 (by kernel_rfl) rfl
  by_cases hs : 1 ≤ l0.length ∧ l0.length ≤ 1000
  · have hd : decide ((1 : Int) ≤ (l0.length : Int) ∧ (l0.length : Int) ≤ 1000) = true := decide_eq_true (by omega)
    rw [hd] at hw1
    have hcode : codeB l0 = !(l0.any fun b => !blockB l0.length b) := by
      unfold codeB
      rw [decide_eq_true hs.1, decide_eq_true hs.2, Bool.true_and, Bool.true_and, List.all_eq_not_any_not]
    rw [hcode]
    have HS := Aside0.mk hs
    clear hs hd hcode
    go_enter Try.func44, Try.ntmps44
    go_wp2_with fail
    refine (impl_CBlock_78.calls _ _ l0 _ _ ?side1 HC.out hsz.out).mono ?_
    case side1 => exact Kd.C_below HR.out (by repeat (first | exact Below.refl _ _ | apply below_alloc | apply pw_below_drewN | apply below_drew1))
    rintro e w' ⟨rfl, ⟨nd, rfl⟩⟩
    go_wp2_with fail
    refine (impl_within.calls _ _ _ _ _ hw1.out).mono ?_
    rintro e w' ⟨rfl, ⟨nd2, rfl⟩⟩
    go_wp2_with fail
    refine (ContainsFunc_CBlock 80 #[.pointer (some ⟨w.heap.size + 1, 0, none⟩)] eg (fun b => !blockB l0.length b) _ _ l0 _ ?hr ?hp).mono ?_
    case hr => exact Kd.C_below HR.out (by repeat (first | exact Below.refl _ _ | apply below_alloc | apply pw_below_drewN | apply below_drew1))
    case hp =>
      intro W x A c hx hW hk hc
      refine CodeOk_1_calls l0.length (by have := HS.out; omega) (by have := HS.out; omega) (w.heap.size + 1) W ?_ ?_ x A c hk hc
      · have := hW.size
        simp at this
        omega
      · refine (hW.cell (p := ⟨w.heap.size + 1, 0, none⟩) (by simp)).trans ?_
        go_simp
    rintro e w' ⟨rfl, hb⟩
    go_wp2_with fail
    go_ret
    exact ⟨rfl, below_step (by repeat (first | exact Below.refl _ _ | apply below_alloc | apply pw_below_drewN | apply below_drew1)) hb⟩
  · have hd : decide ((1 : Int) ≤ (l0.length : Int) ∧ (l0.length : Int) ≤ 1000) = false := decide_eq_false (by omega)
    rw [hd] at hw1
    have hcode : codeB l0 = false := by
      unfold codeB
      by_cases h1 : 1 ≤ l0.length
      · simp [h1, show ¬ l0.length ≤ 1000 by omega]
      · simp [h1]
    rw [hcode]
    clear hs hd hcode
    go_enter Try.func44, Try.ntmps44
    go_wp2_with fail
    refine (impl_CBlock_78.calls _ _ l0 _ _ ?side1 HC.out hsz.out).mono ?_
    case side1 => exact Kd.C_below HR.out (by repeat (first | exact Below.refl _ _ | apply below_alloc | apply pw_below_drewN | apply below_drew1))
    rintro e w' ⟨rfl, ⟨nd, rfl⟩⟩
    go_wp2_with fail
    refine (impl_within.calls _ _ _ _ _ hw1.out).mono ?_
    rintro e w' ⟨rfl, ⟨nd2, rfl⟩⟩
    go_wp2_with fail
    go_ret
    exact ⟨rfl, by repeat (first | exact Below.refl _ _ | apply below_alloc | apply pw_below_drewN | apply below_drew1)⟩
end Go.Proofs.Ytimdoghlnegpgaa.P
-- Made by wip/gen/pp.py of this session over the kit's print of the loaded program: a function, and the contract of its walk. Lean checks it.
namespace Go.Proofs.Ytimdoghlnegpgaa.P
open Go.RowKit Go.Proofs.YtimdoghlnegpgaaW.PrintWords Go.Proofs.YtimdoghlnegpgaaW.PrintLast Go.Proofs.YtimdoghlnegpgaaW.PrintMore
attribute [local go_sem] max2_int min2_int max_two min_two max_three min_three max_four min_four   -- for this text's walks alone
set_option linter.unusedVariables false
set_option linter.unusedSimpArgs false

/-! ### impl_CodeOk: function 44 -/
def impl_CodeOk.f (l0_0 : List (S99)) : Option (Bool) := some (codeB l0_0)
theorem impl_CodeOk.calls (A0_0 : Option Addr) (c0_0 : Nat) (l0_0 : List (S99)) (r : Bool) (w : World) (hr0_0 : Kd.C k99 w A0_0 l0_0.length l0_0) (hc0_0 : l0_0.length ≤ c0_0) (h : impl_CodeOk.f l0_0 = some r) :
    Calls Try.prog 44 #[.agg #[.slice A0_0 l0_0.length c0_0]] w fun e w' => e = .returned (.bool r) ∧ Below w.heap.size w w' := by
  obtain rfl := Option.some.inj h
  exact CodeOk_hand A0_0 c0_0 l0_0 w hr0_0 hc0_0

end Go.Proofs.Ytimdoghlnegpgaa.P
-- Made by wip/gen/pp.py of this session over the kit's print of the loaded program: a function, and the contract of its walk. Lean checks it.
namespace Go.Proofs.Ytimdoghlnegpgaa.P
open Go.RowKit Go.Proofs.YtimdoghlnegpgaaW.PrintWords Go.Proofs.YtimdoghlnegpgaaW.PrintLast Go.Proofs.YtimdoghlnegpgaaW.PrintMore
attribute [local go_sem] max2_int min2_int max_two min_two max_three min_three max_four min_four   -- for this text's walks alone
set_option linter.unusedVariables false
set_option linter.unusedSimpArgs false

/-! ### impl_CBlock_to: function 88 -/
def impl_CBlock_to.l0 : Nat → Int → List (S117) → Int → Int → Int → List (S117) → Int → Option (Int)
 | 0, _, _, _, _, _, _, _ => none
 | k + 1, x1, x8, x9, x10, x102000, x102001, x102002 => if x10 < x9 then (if 0 ≤ x10 then (if x10 < (x8.length : Int) then ((impl_within.f (wrap64 (x1)) ((rd_T117 x8 x10).f0) ((rd_T117 x8 x10).f1)).bind fun t104 => (if t104 = true then (some ((rd_T117 x8 x10).f2)) else (impl_CBlock_to.l0 k x1 x8 x9 (wrap64 (x10 + 1)) x102000 x102001 x102002))) else (none)) else (none)) else (some x102002)
def impl_CBlock_to.f (k : Nat) (a0_0 : Int) (l0_1 : List (S117)) (a0_2 : Int) (a1 : Int) : Option (Int) := impl_CBlock_to.l0 k a1 l0_1 (l0_1.length : Int) 0 a0_0 l0_1 a0_2
theorem impl_CBlock_to.mono_l : ∀ k, (∀ y0 y1 y2 y3 y4 y5 y6, LeO (impl_CBlock_to.l0 k y0 y1 y2 y3 y4 y5 y6) (impl_CBlock_to.l0 (k + 1) y0 y1 y2 y3 y4 y5 y6))
 | 0 => fun _ _ _ _ _ _ _ r h => by simp [impl_CBlock_to.l0] at h
 | k + 1 => by
  have ih0 := impl_CBlock_to.mono_l k
  ·intro y0 y1 y2 y3 y4 y5 y6
   unfold impl_CBlock_to.l0
   repeat' first
   | (with_reducible exact ih0 _ _ _ _ _ _ _)
   | (with_reducible exact LeO.refl _)
   | (with_reducible exact LeO.none _)
   | (with_reducible refine LeO.ite ?_ ?_)
   | (with_reducible refine LeO.bind ?_ (fun _ => ?_))
   | exact ih0 _ _ _ _ _ _ _
   | exact LeO.none _
   | refine LeO.ite ?_ ?_
   | refine LeO.bind ?_ (fun _ => ?_)
theorem impl_CBlock_to.mono : ∀ a0 a1 a2 a3 k, LeO (impl_CBlock_to.f k a0 a1 a2 a3) (impl_CBlock_to.f (k + 1) a0 a1 a2 a3) := by
 intro a0 a1 a2 a3 k
 have ih0 := impl_CBlock_to.mono_l k
 unfold impl_CBlock_to.f
 repeat' first
   | (with_reducible exact ih0 _ _ _ _ _ _ _)
   | (with_reducible exact LeO.refl _)
   | (with_reducible exact LeO.none _)
   | (with_reducible refine LeO.ite ?_ ?_)
   | (with_reducible refine LeO.bind ?_ (fun _ => ?_))
   | exact ih0 _ _ _ _ _ _ _
   | exact LeO.none _
   | refine LeO.ite ?_ ?_
   | refine LeO.bind ?_ (fun _ => ?_)
set_option maxHeartbeats 8000000 in
set_option maxRecDepth 100000 in
theorem impl_CBlock_to.calls (k : Nat) (a0_0 : Int) (A0_1 : Option Addr) (c0_1 : Nat) (l0_1 : List (S117)) (a0_2 : Int) (a1 : Int) (r : Int) (w : World) (hr0_1 : Kd.C k117 w A0_1 l0_1.length l0_1) (hc0_1 : l0_1.length ≤ c0_1) (h : impl_CBlock_to.f k a0_0 l0_1 a0_2 a1 = some r) :
  Calls Try.prog 88 #[.agg #[.int .i64 a0_0, .slice A0_1 l0_1.length c0_1, .int .i64 a0_2], .int .u8 a1] w fun e w' => e = .returned (.int .i64 r) ∧ Below w.heap.size w w' := by
 have hu99 := Try.underlying99
 have hu117 := Try.underlying117
 have HR0_1 := Aside0.mk hr0_1
 have HC0_1 := Aside0.mk hc0_1
 clear hr0_1 hc0_1
 have HB := Aside0.mk (Below.refl w.heap.size w)
 have H : (impl_CBlock_to.l0 k a1 l0_1 (l0_1.length : Int) 0 a0_0 l0_1 a0_2) = some r := h
 clear h
 have H' := Aside0.mk H
 clear H
 go_enter Try.func88, Try.ntmps88
 go_wp2_with (first | ((with_reducible refine gate_dst (N := 2) rfl ?_); refine box_event ?hg (N := 2) ?hd (cs := #[.int .i64 a0_0, .slice A0_1 l0_1.length c0_1, .int .i64 a0_2]) (t := 99) ?hr ?_; (case hd => rfl); (case hg => rfl); (case hr => first | (go_simp; done) | (go_simp; rfl)); intro gb101 hg w3 hbox hb; have n0_ := Aside0.mk (below_step (by repeat (first | (with_reducible first | exact HB.out | apply below_alloc | apply pw_below_drewN | apply below_drew1) | exact HB.out)) hb); have n1_ := Aside0.mk (hbox); have n2_ := Aside0.mk ((by rw [hg]; exact (below_size (by repeat (first | (with_reducible first | exact HB.out | apply below_alloc | apply pw_below_drewN | apply below_drew1) | exact HB.out))) : w.heap.size ≤ gb101)); have n3_ := Aside0.mk ((by rw [hg]; exact (below_size (by repeat (first | (with_reducible first | exact HB.out | apply below_alloc | apply pw_below_drewN | apply below_drew1) | exact HB.out))) : w.heap.size ≤ gb101)); clear HB; have HB := n0_; have BK101 := n1_; have GW101 := n2_; have GE101 := n3_; clear n0_ n1_ n2_ n3_; clear hb hbox hg; have hcz4_0 : w3.cell? ⟨gb101, 0, none⟩ = some (.int .i64 a0_0) := (blk_cell BK101.out 0).trans rfl; have hcz4_1 : w3.cell? ⟨gb101, 1, none⟩ = some (.slice A0_1 l0_1.length c0_1) := (blk_cell BK101.out 1).trans rfl; have hcz4_2 : w3.cell? ⟨gb101, 2, none⟩ = some (.int .i64 a0_2) := (blk_cell BK101.out 2).trans rfl; have hfz4_0 := blk_frozen BK101.out 0; have hfz4_1 := blk_frozen BK101.out 1; have hfz4_2 := blk_frozen BK101.out 2))
 go_loopg [10] k (fun kq v10 w' => ∃ (x10_1 : Int), v10 = .int .i64 x10_1 ∧ Aside0 (impl_CBlock_to.l0 kq a1 l0_1 (l0_1.length : Int) x10_1 a0_0 l0_1 a0_2 = some r) ∧ Aside0 (kq ≤ k) ∧ Aside0 (w'.heap[gb101]? = some (.cells #[.int .i64 a0_0, (.slice A0_1 l0_1.length c0_1), .int .i64 a0_2] 99 (0, 0))) ∧ Aside0 (Below w.heap.size w w'))
 case atStart => exact ⟨(0), (by first | rfl | (simp; done) | (simp [*]; done)), H', ⟨Nat.le_refl _⟩, ⟨by (with_reducible repeat (first | refine blk_drewN ?_ _ | refine blk_drew ?_ | refine blk_alloc ?_ _)); exact BK101.out⟩, ⟨by repeat (first | (with_reducible first | exact HB.out | apply below_alloc | apply pw_below_drewN | apply below_drew1 | refine below_set ?_ GE101.out) | exact HB.out)⟩⟩
 case round =>
  clear H'
  try clear p2
  try clear hcz4_0
  try clear hcz4_1
  try clear hcz4_2
  try clear hfz4_0
  try clear hfz4_1
  try clear hfz4_2
  obtain ⟨x10_1, rfl, HA, HK1, BK101, HB⟩ := hrel
  cases gk with
  | zero => exact absurd HA.out (by simp [impl_CBlock_to.l0])
  | succ k1 =>
   have H := HA.out
   clear HA
   simp only [impl_CBlock_to.l0] at H
   by_cases c5 : x10_1 < (l0_1.length : Int)
   ·rw [if_pos c5] at H
    have c5b0 : decide (x10_1 < (l0_1.length : Int)) = true := decide_eq_true c5
    clear c5
    by_cases c6 : 0 ≤ x10_1
    ·rw [if_pos c6] at H
     have c6b0 : decide (0 ≤ x10_1) = true := decide_eq_true c6
     clear c6
     by_cases c7 : x10_1 < (l0_1.length : Int)
     ·rw [if_pos c7] at H
      have c7b0 : decide (x10_1 < (l0_1.length : Int)) = true := decide_eq_true c7
      clear c7
      replace H := Option.bind_eq_some_iff.mp H
      obtain ⟨t104, A80, H⟩ := H
      replace H : (if t104 = true then (some ((rd_T117 l0_1 x10_1).f2)) else (impl_CBlock_to.l0 k1 a1 l0_1 (l0_1.length : Int) (wrap64 (x10_1 + 1)) a0_0 l0_1 a0_2)) = some r := H
      have A8 := Aside0.mk A80
      clear A80
      by_cases c9 : t104 = true
      ·subst c9
       have H1 : (some ((rd_T117 l0_1 x10_1).f2)) = some r := by rw [if_pos rfl] at H; exact H
       clear H
       have H := H1
       clear H1
       obtain rfl := Option.some.inj H
       have p102 : 0 ≤ (x10_1 : Int) := of_decide_eq_true (by first | (with_reducible assumption) | assumption)
       have q102 : x10_1 < (l0_1.length : Int) := of_decide_eq_true (by first | (with_reducible assumption) | assumption)
       obtain ⟨ad102, e102, hx102_0, hx102_1, hx102_2⟩ := at_T117 HR0_1.out x10_1 p102 q102
       cases e102
       replace hx102_0 := (HB.out.cell (World.block_lt_of_cell? w _ hx102_0)).trans hx102_0
       replace hx102_1 := (HB.out.cell (World.block_lt_of_cell? w _ hx102_1)).trans hx102_1
       replace hx102_2 := (HB.out.cell (World.block_lt_of_cell? w _ hx102_2)).trans hx102_2
       replace p102 := eq_true p102
       replace q102 := eq_true q102
       go_wp2_with (first | ((with_reducible refine gate_dst (N := 6) rfl ?_); refine box_event ?hg (N := 6) ?hd (cs := #[.int .i64 0, .int .i64 0, .int .i64 0]) (t := 117) ?hr ?_; (case hd => rfl); (case hg => rfl); (case hr => first | (go_simp; done) | (go_simp; rfl)); intro gb103 hg w10 hbox hb; have n0_ := Aside0.mk (blk_below (g := gb101) (o := .cells #[.int .i64 a0_0, .slice (some ad102) l0_1.length c0_1, .int .i64 a0_2] 99 (0, 0)) (by (with_reducible repeat (first | refine blk_drewN ?_ _ | refine blk_drew ?_ | refine blk_alloc ?_ _)); exact BK101.out) hb); have n1_ := Aside0.mk (below_step (by repeat (first | (with_reducible first | exact HB.out | apply below_alloc | apply pw_below_drewN | apply below_drew1 | refine below_set ?_ GE101.out) | exact HB.out)) hb); have n2_ := Aside0.mk (hbox); have n3_ := Aside0.mk ((by rw [hg]; exact (below_size (by repeat (first | (with_reducible first | exact HB.out | apply below_alloc | apply pw_below_drewN | apply below_drew1 | refine below_set ?_ GE101.out) | exact HB.out))) : w.heap.size ≤ gb103)); have n4_ := Aside0.mk ((by rw [hg]; exact (below_size (by repeat (first | (with_reducible first | exact HB.out | apply below_alloc | apply pw_below_drewN | apply below_drew1 | refine below_set ?_ GE101.out) | exact HB.out))) : w.heap.size ≤ gb103)); have n5_ := Aside0.mk ((by rw [hg]; exact Nat.ne_of_lt (blk_lt (g := gb101) (o := .cells #[.int .i64 a0_0, .slice (some ad102) l0_1.length c0_1, .int .i64 a0_2] 99 (0, 0)) (by (with_reducible repeat (first | refine blk_drewN ?_ _ | refine blk_drew ?_ | refine blk_alloc ?_ _)); exact BK101.out)) : gb101 ≠ gb103)); have n6_ := Aside0.mk ((by rw [hg]; exact Nat.ne_of_gt (blk_lt (g := gb101) (o := .cells #[.int .i64 a0_0, .slice (some ad102) l0_1.length c0_1, .int .i64 a0_2] 99 (0, 0)) (by (with_reducible repeat (first | refine blk_drewN ?_ _ | refine blk_drew ?_ | refine blk_alloc ?_ _)); exact BK101.out)) : gb103 ≠ gb101)); clear BK101; clear HB; have BK101 := n0_; have HB := n1_; have BK103 := n2_; have GW103 := n3_; have GE103 := n4_; have NB101_103 := n5_; have NB103_101 := n6_; clear n0_ n1_ n2_ n3_ n4_ n5_ n6_; clear hb hbox hg; have hnb11 := NB103_101.out; have hnc11 := NB101_103.out; have hcz12_0 : w10.cell? ⟨gb103, 0, none⟩ = some (.int .i64 0) := (blk_cell BK103.out 0).trans rfl; have hcz12_1 : w10.cell? ⟨gb103, 1, none⟩ = some (.int .i64 0) := (blk_cell BK103.out 1).trans rfl; have hcz12_2 : w10.cell? ⟨gb103, 2, none⟩ = some (.int .i64 0) := (blk_cell BK103.out 2).trans rfl; have hfz12_0 := blk_frozen BK103.out 0; have hfz12_1 := blk_frozen BK103.out 1; have hfz12_2 := blk_frozen BK103.out 2) | ((with_reducible refine gate_callee (f := 64) rfl ?_); refine goesL_ (some 20) rfl rfl Try.func64 (by kernel_rfl) rfl #[.int .i64 (wrap64 (a1)), .int .i64 ((rd_T117 l0_1 x10_1).f0), .int .i64 ((rd_T117 l0_1 x10_1).f1)] rfl (by (try simp only [List.map_toArray, List.map_cons, List.map_nil]); first | done | rfl | (simp only [List.length_drop, List.length_take]; rfl)) ?_; (with_reducible refine (impl_within.calls (wrap64 (a1)) ((rd_T117 l0_1 x10_1).f0) ((rd_T117 l0_1 x10_1).f1) true _ A8.out).mono ?_); rintro e w' ⟨rfl, ⟨nd, rfl⟩⟩; refine ⟨_, rfl, ?_⟩))
       go_ret
       exact ⟨by first | rfl | (simp [errW_none, errW_some] <;> rfl) | (simp [*, errW_none, errW_some] <;> rfl), by repeat (first | (with_reducible first | exact HB.out | apply below_alloc | apply pw_below_drewN | apply below_drew1 | refine below_set ?_ GE101.out | refine below_set ?_ GE103.out) | exact HB.out)⟩
      ·replace c9 := Bool.eq_false_iff.mpr c9
       subst c9
       have H1 : (impl_CBlock_to.l0 k1 a1 l0_1 (l0_1.length : Int) (wrap64 (x10_1 + 1)) a0_0 l0_1 a0_2) = some r := by rw [if_neg (show ¬ (false = true) by decide)] at H; exact H
       clear H
       have H := H1
       clear H1
       have H' := Aside0.mk H
       clear H
       have p102 : 0 ≤ (x10_1 : Int) := of_decide_eq_true (by first | (with_reducible assumption) | assumption)
       have q102 : x10_1 < (l0_1.length : Int) := of_decide_eq_true (by first | (with_reducible assumption) | assumption)
       obtain ⟨ad102, e102, hx102_0, hx102_1, hx102_2⟩ := at_T117 HR0_1.out x10_1 p102 q102
       cases e102
       replace hx102_0 := (HB.out.cell (World.block_lt_of_cell? w _ hx102_0)).trans hx102_0
       replace hx102_1 := (HB.out.cell (World.block_lt_of_cell? w _ hx102_1)).trans hx102_1
       replace hx102_2 := (HB.out.cell (World.block_lt_of_cell? w _ hx102_2)).trans hx102_2
       replace p102 := eq_true p102
       replace q102 := eq_true q102
       go_wp2_with (first | ((with_reducible refine gate_dst (N := 6) rfl ?_); refine box_event ?hg (N := 6) ?hd (cs := #[.int .i64 0, .int .i64 0, .int .i64 0]) (t := 117) ?hr ?_; (case hd => rfl); (case hg => rfl); (case hr => first | (go_simp; done) | (go_simp; rfl)); intro gb103 hg w13 hbox hb; have n0_ := Aside0.mk (blk_below (g := gb101) (o := .cells #[.int .i64 a0_0, .slice (some ad102) l0_1.length c0_1, .int .i64 a0_2] 99 (0, 0)) (by (with_reducible repeat (first | refine blk_drewN ?_ _ | refine blk_drew ?_ | refine blk_alloc ?_ _)); exact BK101.out) hb); have n1_ := Aside0.mk (below_step (by repeat (first | (with_reducible first | exact HB.out | apply below_alloc | apply pw_below_drewN | apply below_drew1 | refine below_set ?_ GE101.out) | exact HB.out)) hb); have n2_ := Aside0.mk (hbox); have n3_ := Aside0.mk ((by rw [hg]; exact (below_size (by repeat (first | (with_reducible first | exact HB.out | apply below_alloc | apply pw_below_drewN | apply below_drew1 | refine below_set ?_ GE101.out) | exact HB.out))) : w.heap.size ≤ gb103)); have n4_ := Aside0.mk ((by rw [hg]; exact (below_size (by repeat (first | (with_reducible first | exact HB.out | apply below_alloc | apply pw_below_drewN | apply below_drew1 | refine below_set ?_ GE101.out) | exact HB.out))) : w.heap.size ≤ gb103)); have n5_ := Aside0.mk ((by rw [hg]; exact Nat.ne_of_lt (blk_lt (g := gb101) (o := .cells #[.int .i64 a0_0, .slice (some ad102) l0_1.length c0_1, .int .i64 a0_2] 99 (0, 0)) (by (with_reducible repeat (first | refine blk_drewN ?_ _ | refine blk_drew ?_ | refine blk_alloc ?_ _)); exact BK101.out)) : gb101 ≠ gb103)); have n6_ := Aside0.mk ((by rw [hg]; exact Nat.ne_of_gt (blk_lt (g := gb101) (o := .cells #[.int .i64 a0_0, .slice (some ad102) l0_1.length c0_1, .int .i64 a0_2] 99 (0, 0)) (by (with_reducible repeat (first | refine blk_drewN ?_ _ | refine blk_drew ?_ | refine blk_alloc ?_ _)); exact BK101.out)) : gb103 ≠ gb101)); clear BK101; clear HB; have BK101 := n0_; have HB := n1_; have BK103 := n2_; have GW103 := n3_; have GE103 := n4_; have NB101_103 := n5_; have NB103_101 := n6_; clear n0_ n1_ n2_ n3_ n4_ n5_ n6_; clear hb hbox hg; have hnb14 := NB103_101.out; have hnc14 := NB101_103.out; have hcz15_0 : w13.cell? ⟨gb103, 0, none⟩ = some (.int .i64 0) := (blk_cell BK103.out 0).trans rfl; have hcz15_1 : w13.cell? ⟨gb103, 1, none⟩ = some (.int .i64 0) := (blk_cell BK103.out 1).trans rfl; have hcz15_2 : w13.cell? ⟨gb103, 2, none⟩ = some (.int .i64 0) := (blk_cell BK103.out 2).trans rfl; have hfz15_0 := blk_frozen BK103.out 0; have hfz15_1 := blk_frozen BK103.out 1; have hfz15_2 := blk_frozen BK103.out 2) | ((with_reducible refine gate_callee (f := 64) rfl ?_); refine goesL_ (some 20) rfl rfl Try.func64 (by kernel_rfl) rfl #[.int .i64 (wrap64 (a1)), .int .i64 ((rd_T117 l0_1 x10_1).f0), .int .i64 ((rd_T117 l0_1 x10_1).f1)] rfl (by (try simp only [List.map_toArray, List.map_cons, List.map_nil]); first | done | rfl | (simp only [List.length_drop, List.length_take]; rfl)) ?_; (with_reducible refine (impl_within.calls (wrap64 (a1)) ((rd_T117 l0_1 x10_1).f0) ((rd_T117 l0_1 x10_1).f1) false _ A8.out).mono ?_); rintro e w' ⟨rfl, ⟨nd, rfl⟩⟩; refine ⟨_, rfl, ?_⟩))
       go_roundg k1
       case measure => have := HK1.out; omega
       case rel => exact ⟨(wrap64 (x10_1 + 1)), (by first | rfl | (simp; done) | (simp [*]; done)), H', ⟨by have := HK1.out; omega⟩, ⟨by (with_reducible repeat (first | refine blk_drewN ?_ _ | refine blk_drew ?_ | refine blk_alloc ?_ _)); refine blk_far ?_ NB101_103.out _; (with_reducible repeat (first | refine blk_drewN ?_ _ | refine blk_drew ?_ | refine blk_alloc ?_ _)); refine blk_far ?_ NB101_103.out _; (with_reducible repeat (first | refine blk_drewN ?_ _ | refine blk_drew ?_ | refine blk_alloc ?_ _)); refine blk_far ?_ NB101_103.out _; (with_reducible repeat (first | refine blk_drewN ?_ _ | refine blk_drew ?_ | refine blk_alloc ?_ _)); exact BK101.out⟩, ⟨by repeat (first | (with_reducible first | exact HB.out | apply below_alloc | apply pw_below_drewN | apply below_drew1 | refine below_set ?_ GE101.out | refine below_set ?_ GE103.out) | exact HB.out)⟩⟩
     ·rw [if_neg c7] at H
      exact absurd H (by simp)
    ·rw [if_neg c6] at H
     exact absurd H (by simp)
   ·rw [if_neg c5] at H
    have c5b0 : decide (x10_1 < (l0_1.length : Int)) = false := decide_eq_false c5
    clear c5
    obtain rfl := Option.some.inj H
    have hcz16_0 : wr.cell? ⟨gb101, 0, none⟩ = some (.int .i64 a0_0) := (blk_cell BK101.out 0).trans rfl
    have hcz16_1 : wr.cell? ⟨gb101, 1, none⟩ = some (.slice A0_1 l0_1.length c0_1) := (blk_cell BK101.out 1).trans rfl
    have hcz16_2 : wr.cell? ⟨gb101, 2, none⟩ = some (.int .i64 a0_2) := (blk_cell BK101.out 2).trans rfl
    have hfz16_0 := blk_frozen BK101.out 0
    have hfz16_1 := blk_frozen BK101.out 1
    have hfz16_2 := blk_frozen BK101.out 2
    go_wp2
    go_ret
    exact ⟨by first | rfl | (simp [errW_none, errW_some] <;> rfl) | (simp [*, errW_none, errW_some] <;> rfl), by repeat (first | (with_reducible first | exact HB.out | apply below_alloc | apply pw_below_drewN | apply below_drew1 | refine below_set ?_ GE101.out) | exact HB.out)⟩

end Go.Proofs.Ytimdoghlnegpgaa.P
-- Made by wip/gen/pp.py of this session over the kit's print of the loaded program: a function, and the contract of its walk. Lean checks it.
namespace Go.Proofs.Ytimdoghlnegpgaa.P
open Go.RowKit Go.Proofs.YtimdoghlnegpgaaW.PrintWords Go.Proofs.YtimdoghlnegpgaaW.PrintLast Go.Proofs.YtimdoghlnegpgaaW.PrintMore
attribute [local go_sem] max2_int min2_int max_two min_two max_three min_three max_four min_four   -- for this text's walks alone
set_option linter.unusedVariables false
set_option linter.unusedSimpArgs false

/-! ### impl_RunCode: function 50 -/
mutual
def impl_RunCode.j0 : Nat → ByteArray → Int → Bool → List (S99) → Option (Int × Int)
 | 0, _, _, _, _ => none
 | k + 1, x1, x2, x27, x102000 => if x27 = true then (some ((-1), (-1))) else (impl_RunCode.l0 k x1 (-1) (-1) 0 x2 x102000)
def impl_RunCode.l0 : Nat → ByteArray → Int → Int → Int → Int → List (S99) → Option (Int × Int)
 | 0, _, _, _, _, _, _ => none
 | k + 1, x1, x8, x9, x10, x11, x102000 => (impl_length.f x1).bind fun t105 => (if x11 < t105 then (if 0 ≤ x10 then (if x10 < (x102000.length : Int) then (if 0 ≤ x11 then (if x11 < (x1.size : Int) then ((impl_CBlock_to.f k ((rd_T99 x102000 x10).f0) ((rd_T99 x102000 x10).f1) ((rd_T99 x102000 x10).f2) (bt x1 x11)).bind fun t107 => (if 0 ≤ t107 then (if t107 < (x102000.length : Int) then (if ((rd_T99 x102000 t107).f0) ≥ 0 then (impl_RunCode.l0 k x1 (wrap64 (x11 + 1)) ((rd_T99 x102000 t107).f0) t107 (wrap64 (x11 + 1)) x102000) else (impl_RunCode.l0 k x1 x8 x9 t107 (wrap64 (x11 + 1)) x102000)) else (none)) else (none))) else (none)) else (none)) else (none)) else (none)) else (some (x8, x9)))
end
def impl_RunCode.f (k : Nat) (l0_0 : List (S99)) (a1 : ByteArray) (a2 : Int) : Option (Int × Int) := if (a1.size : Int) > 20000 then (impl_RunCode.j0 k a1 a2 true l0_0) else ((impl_length.f a1).bind fun t102 => ((impl_within.f a2 0 t102).bind fun t103 => (if t103 = true then ((impl_CodeOk.f l0_0).bind fun t104 => (impl_RunCode.j0 k a1 a2 (!t104) l0_0)) else (impl_RunCode.j0 k a1 a2 true l0_0))))
theorem impl_RunCode.mono_l : ∀ k, (∀ y0 y1 y2 y3, LeO (impl_RunCode.j0 k y0 y1 y2 y3) (impl_RunCode.j0 (k + 1) y0 y1 y2 y3)) ∧ (∀ y0 y1 y2 y3 y4 y5, LeO (impl_RunCode.l0 k y0 y1 y2 y3 y4 y5) (impl_RunCode.l0 (k + 1) y0 y1 y2 y3 y4 y5))
 | 0 => ⟨fun _ _ _ _ r h => by simp [impl_RunCode.j0] at h, fun _ _ _ _ _ _ r h => by simp [impl_RunCode.l0] at h⟩
 | k + 1 => by
  obtain ⟨ih0, ih1⟩ := impl_RunCode.mono_l k
  refine ⟨?_, ?_⟩
  ·intro y0 y1 y2 y3
   unfold impl_RunCode.j0
   repeat' first
   | (with_reducible exact ih0 _ _ _ _)
   | (with_reducible exact ih1 _ _ _ _ _ _)
   | (with_reducible exact impl_CBlock_to.mono _ _ _ _ _)
   | (with_reducible exact LeO.refl _)
   | (with_reducible exact LeO.none _)
   | (with_reducible refine LeO.ite ?_ ?_)
   | (with_reducible refine LeO.bind ?_ (fun _ => ?_))
   | exact ih0 _ _ _ _
   | exact ih1 _ _ _ _ _ _
   | exact impl_CBlock_to.mono _ _ _ _ _
   | exact LeO.none _
   | refine LeO.ite ?_ ?_
   | refine LeO.bind ?_ (fun _ => ?_)
  ·intro y0 y1 y2 y3 y4 y5
   unfold impl_RunCode.l0
   repeat' first
   | (with_reducible exact ih0 _ _ _ _)
   | (with_reducible exact ih1 _ _ _ _ _ _)
   | (with_reducible exact impl_CBlock_to.mono _ _ _ _ _)
   | (with_reducible exact LeO.refl _)
   | (with_reducible exact LeO.none _)
   | (with_reducible refine LeO.ite ?_ ?_)
   | (with_reducible refine LeO.bind ?_ (fun _ => ?_))
   | exact ih0 _ _ _ _
   | exact ih1 _ _ _ _ _ _
   | exact impl_CBlock_to.mono _ _ _ _ _
   | exact LeO.none _
   | refine LeO.ite ?_ ?_
   | refine LeO.bind ?_ (fun _ => ?_)
theorem impl_RunCode.mono : ∀ a0 a1 a2 k, LeO (impl_RunCode.f k a0 a1 a2) (impl_RunCode.f (k + 1) a0 a1 a2) := by
 intro a0 a1 a2 k
 obtain ⟨ih0, ih1⟩ := impl_RunCode.mono_l k
 unfold impl_RunCode.f
 repeat' first
   | (with_reducible exact ih0 _ _ _ _)
   | (with_reducible exact ih1 _ _ _ _ _ _)
   | (with_reducible exact impl_CBlock_to.mono _ _ _ _ _)
   | (with_reducible exact LeO.refl _)
   | (with_reducible exact LeO.none _)
   | (with_reducible refine LeO.ite ?_ ?_)
   | (with_reducible refine LeO.bind ?_ (fun _ => ?_))
   | exact ih0 _ _ _ _
   | exact ih1 _ _ _ _ _ _
   | exact impl_CBlock_to.mono _ _ _ _ _
   | exact LeO.none _
   | refine LeO.ite ?_ ?_
   | refine LeO.bind ?_ (fun _ => ?_)
def impl_RunCode.T7 : Bool × List (List Nat × List Nat) := (true, [([], []), ([0], [0]), ([], []), ([1, 2], [1, 2]), ([3], [3]), ([], []), ([], []), ([5, 6], [5, 6]), ([4, 7], [4, 7]), ([8, 8, 0, 1, 2, 3, 4, 5, 6, 7, 8], [2, 8])])
def impl_RunCode.B7 : List Nat := [0, 1, 0, 7, 15, 0, 0, 96, 255, 511]
theorem impl_RunCode.tab7 : rtab .any (opsOf Try.f50 7) = impl_RunCode.T7 := by kernel_rfl
theorem impl_RunCode.bits7 : waitsOk impl_RunCode.T7.2 impl_RunCode.B7 = true := by kernel_rfl
set_option maxHeartbeats 8000000 in
set_option maxRecDepth 100000 in
theorem impl_RunCode.calls (k : Nat) (A0_0 : Option Addr) (c0_0 : Nat) (l0_0 : List (S99)) (a1 : ByteArray) (a2 : Int) (r1 : Int) (r2 : Int) (w : World) (hr0_0 : Kd.C k99 w A0_0 l0_0.length l0_0) (hc0_0 : l0_0.length ≤ c0_0) (h : impl_RunCode.f k l0_0 a1 a2 = some (r1, r2)) :
  Calls Try.prog 50 #[.agg #[.slice A0_0 l0_0.length c0_0], .string a1, .int .i64 a2] w fun e w' => e = .returned (.tuple #[.int .i64 r1, .int .i64 r2]) ∧ Below w.heap.size w w' := by
 have hu58 := Try.underlying58
 have hu99 := Try.underlying99
 have HR0_0 := Aside0.mk hr0_0
 have HC0_0 := Aside0.mk hc0_0
 clear hr0_0 hc0_0
 have HB := Aside0.mk (Below.refl w.heap.size w)
 have H : (if (a1.size : Int) > 20000 then (impl_RunCode.j0 k a1 a2 true l0_0) else ((impl_length.f a1).bind fun t102 => ((impl_within.f a2 0 t102).bind fun t103 => (if t103 = true then ((impl_CodeOk.f l0_0).bind fun t104 => (impl_RunCode.j0 k a1 a2 (!t104) l0_0)) else (impl_RunCode.j0 k a1 a2 true l0_0))))) = some (r1, r2) := h
 clear h
 have HC4 := Aside0.mk H
 clear H
 go_enter Try.func50, Try.ntmps50
 go_upto_region 1 with (first | ((with_reducible refine gate_dst (N := 3) rfl ?_); refine box_event ?hg (N := 3) ?hd (cs := #[.slice A0_0 l0_0.length c0_0]) (t := 58) ?hr ?_; (case hd => rfl); (case hg => rfl); (case hr => first | (go_simp; done) | (go_simp; rfl)); intro gb101 hg w5 hbox hb; have n0_ := Aside0.mk (below_step (by repeat (first | (with_reducible first | exact HB.out | apply below_alloc | apply pw_below_drewN | apply below_drew1) | exact HB.out)) hb); have n1_ := Aside0.mk (hbox); have n2_ := Aside0.mk ((by rw [hg]; exact (below_size (by repeat (first | (with_reducible first | exact HB.out | apply below_alloc | apply pw_below_drewN | apply below_drew1) | exact HB.out))) : w.heap.size ≤ gb101)); have n3_ := Aside0.mk ((by rw [hg]; exact (below_size (by repeat (first | (with_reducible first | exact HB.out | apply below_alloc | apply pw_below_drewN | apply below_drew1) | exact HB.out))) : w.heap.size ≤ gb101)); clear HB; have HB := n0_; have BK101 := n1_; have GW101 := n2_; have GE101 := n3_; clear n0_ n1_ n2_ n3_; clear hb hbox hg))
 (try simp only [Act.put, List.setIfInBounds_toArray, List.set_cons_zero, List.set_cons_succ])
 go_cut [27] (fun v27 wc => ∃ (kq : Nat) (x27_3 : Bool), v27 = .bool x27_3 ∧ Aside0 (impl_RunCode.j0 kq a1 a2 x27_3 l0_0 = some (r1, r2)) ∧ Aside0 (kq ≤ k) ∧ Aside0 (wc.heap[gb101]? = some (.cells #[(.slice A0_0 l0_0.length c0_0)] 58 (0, 0))) ∧ Aside0 (Below w.heap.size w wc))
 case first =>
  have H := HC4.out
  clear HC4
  by_cases c6 : (a1.size : Int) > 20000
  ·rw [if_pos c6] at H
   have c6b0 : decide (20000 < (a1.size : Int)) = true := decide_eq_true c6
   have c6b1 : decide (20000 < a1.size) = true := decide_eq_true (by omega)
   clear c6
   (first | rw [c6b0] | (simp only [i64_w, i32_w]; rw [c6b0]) | skip)
   have H' := Aside0.mk H
   clear H
   go_wp2
   go_meet
   case rel => exact ⟨_, (true), (by first | rfl | (simp; done) | (simp [*]; done)), H', ⟨by first | omega | exact Nat.le_refl _⟩, ⟨by (with_reducible repeat (first | refine blk_drewN ?_ _ | refine blk_drew ?_ | refine blk_alloc ?_ _)); exact BK101.out⟩, ⟨by repeat (first | (with_reducible first | exact HB.out | apply below_alloc | apply pw_below_drewN | apply below_drew1 | refine below_set ?_ GE101.out) | exact HB.out)⟩⟩
  ·rw [if_neg c6] at H
   have c6b0 : decide (20000 < (a1.size : Int)) = false := decide_eq_false c6
   have c6b1 : decide (20000 < a1.size) = false := decide_eq_false (by omega)
   clear c6
   (first | rw [c6b0] | (simp only [i64_w, i32_w]; rw [c6b0]) | skip)
   replace H := Option.bind_eq_some_iff.mp H
   obtain ⟨t102, A70, H⟩ := H
   replace H : ((impl_within.f a2 0 t102).bind fun t103 => (if t103 = true then ((impl_CodeOk.f l0_0).bind fun t104 => (impl_RunCode.j0 k a1 a2 (!t104) l0_0)) else (impl_RunCode.j0 k a1 a2 true l0_0))) = some (r1, r2) := H
   have A7 := Aside0.mk A70
   clear A70
   replace H := Option.bind_eq_some_iff.mp H
   obtain ⟨t103, A80, H⟩ := H
   replace H : (if t103 = true then ((impl_CodeOk.f l0_0).bind fun t104 => (impl_RunCode.j0 k a1 a2 (!t104) l0_0)) else (impl_RunCode.j0 k a1 a2 true l0_0)) = some (r1, r2) := H
   have A8 := Aside0.mk A80
   clear A80
   by_cases c9 : t103 = true
   ·subst c9
    have H1 : ((impl_CodeOk.f l0_0).bind fun t104 => (impl_RunCode.j0 k a1 a2 (!t104) l0_0)) = some (r1, r2) := by rw [if_pos rfl] at H; exact H
    clear H
    have H := H1
    clear H1
    replace H := Option.bind_eq_some_iff.mp H
    obtain ⟨t104, A100, H⟩ := H
    replace H : (impl_RunCode.j0 k a1 a2 (!t104) l0_0) = some (r1, r2) := H
    have A10 := Aside0.mk A100
    clear A100
    have H' := Aside0.mk H
    clear H
    go_wp2_with (first | (go_at_call 74; (with_reducible refine (impl_length.calls a1 t102 _ A7.out).mono ?_); rintro e w' ⟨rfl, ⟨nd, rfl⟩⟩) | (go_at_call 64; (with_reducible refine (impl_within.calls a2 0 t102 true _ A8.out).mono ?_); rintro e w' ⟨rfl, ⟨nd, rfl⟩⟩; have hcz11_0 : w5.cell? ⟨gb101, 0, none⟩ = some (.slice A0_0 l0_0.length c0_0) := (blk_cell BK101.out 0).trans rfl; have hfz11_0 := blk_frozen BK101.out 0) | (go_at_call 44; (with_reducible refine (impl_CodeOk.calls _ _ l0_0 t104 _ ?side1 ?side2 A10.out).mono ?_); (case side1 => repeat (first | exact (Kd.C_below HR0_0.out (by repeat (first | (with_reducible first | exact HB.out | apply below_alloc | apply pw_below_drewN | apply below_drew1 | refine below_set ?_ GE101.out) | exact HB.out))) | (with_reducible refine Kd.C_alloc ?_ _) | (with_reducible refine Kd.C_drewN ?_ _) | (with_reducible refine Kd.C_drew ?_))); (case side2 => exact HC0_0.out); rintro e w12 ⟨rfl, hb⟩; have n0_ := Aside0.mk (blk_below (g := gb101) (o := .cells #[.slice A0_0 l0_0.length c0_0] 58 (0, 0)) (by (with_reducible repeat (first | refine blk_drewN ?_ _ | refine blk_drew ?_ | refine blk_alloc ?_ _)); exact BK101.out) hb); have n1_ := Aside0.mk (below_step (by repeat (first | (with_reducible first | exact HB.out | apply below_alloc | apply pw_below_drewN | apply below_drew1 | refine below_set ?_ GE101.out) | exact HB.out)) hb); clear BK101; clear HB; have BK101 := n0_; have HB := n1_; clear n0_ n1_; (try clear hb); (try clear hb2); (try clear hk); (try clear hi)))
    go_meet
    case rel => exact ⟨_, (!t104), (by first | rfl | (simp; done) | (simp [*]; done)), H', ⟨by first | omega | exact Nat.le_refl _⟩, ⟨by (with_reducible repeat (first | refine blk_drewN ?_ _ | refine blk_drew ?_ | refine blk_alloc ?_ _)); exact BK101.out⟩, ⟨by repeat (first | (with_reducible first | exact HB.out | apply below_alloc | apply pw_below_drewN | apply below_drew1 | refine below_set ?_ GE101.out) | exact HB.out)⟩⟩
   ·replace c9 := Bool.eq_false_iff.mpr c9
    subst c9
    have H1 : (impl_RunCode.j0 k a1 a2 true l0_0) = some (r1, r2) := by rw [if_neg (show ¬ (false = true) by decide)] at H; exact H
    clear H
    have H := H1
    clear H1
    have H' := Aside0.mk H
    clear H
    go_wp2_with (first | (go_at_call 74; (with_reducible refine (impl_length.calls a1 t102 _ A7.out).mono ?_); rintro e w' ⟨rfl, ⟨nd, rfl⟩⟩) | (go_at_call 64; (with_reducible refine (impl_within.calls a2 0 t102 false _ A8.out).mono ?_); rintro e w' ⟨rfl, ⟨nd, rfl⟩⟩))
    go_meet
    case rel => exact ⟨_, (true), (by first | rfl | (simp; done) | (simp [*]; done)), H', ⟨by first | omega | exact Nat.le_refl _⟩, ⟨by (with_reducible repeat (first | refine blk_drewN ?_ _ | refine blk_drew ?_ | refine blk_alloc ?_ _)); exact BK101.out⟩, ⟨by repeat (first | (with_reducible first | exact HB.out | apply below_alloc | apply pw_below_drewN | apply below_drew1 | refine below_set ?_ GE101.out) | exact HB.out)⟩⟩
 case rest =>
  clear HC4
  try clear p2
  try clear c5
  try clear c6
  try clear c6b0
  try clear c6b1
  try clear c9
  try clear hcz11_0
  try clear hfz11_0
  obtain ⟨kq, x27_3, rfl, HA, HJ3, BK101, HB⟩ := hcut
  cases kq with
  | zero => exact absurd HA.out (by simp [impl_RunCode.j0])
  | succ kj3 =>
   have H := HA.out
   clear HA
   simp only [impl_RunCode.j0] at H
   by_cases c13 : x27_3 = true
   ·subst c13
    have H1 : (some ((-1), (-1))) = some (r1, r2) := by rw [if_pos rfl] at H; exact H
    clear H
    have H := H1
    clear H1
    simp only [Option.some.injEq, Prod.mk.injEq] at H
    obtain ⟨rfl, rfl⟩ := H
    go_wp2
    go_ret2
    exact ⟨by first | rfl | (simp [errW_none, errW_some] <;> rfl) | (simp [*, errW_none, errW_some] <;> rfl), by repeat (first | (with_reducible first | exact HB.out | apply below_alloc | apply pw_below_drewN | apply below_drew1 | refine below_set ?_ GE101.out) | exact HB.out)⟩
   ·replace c13 := Bool.eq_false_iff.mpr c13
    subst c13
    have H1 : (impl_RunCode.l0 kj3 a1 (-1) (-1) 0 a2 l0_0) = some (r1, r2) := by rw [if_neg (show ¬ (false = true) by decide)] at H; exact H
    clear H
    have H := H1
    clear H1
    have H' := Aside0.mk H
    clear H
    go_wp2
    go_loopg [8, 9, 10, 11] kj3 (fun kq v8 v9 v10 v11 w' => ∃ (x8_2 : Int) (x9_2 : Int) (x10_2 : Int) (x11_2 : Int), v8 = .int .i64 x8_2 ∧ v9 = .int .i64 x9_2 ∧ v10 = .int .i64 x10_2 ∧ v11 = .int .i64 x11_2 ∧ Aside0 (impl_RunCode.l0 kq a1 x8_2 x9_2 x10_2 x11_2 l0_0 = some (r1, r2)) ∧ Aside0 (kq ≤ kj3) ∧ Aside0 (w'.heap[gb101]? = some (.cells #[(.slice A0_0 l0_0.length c0_0)] 58 (0, 0))) ∧ Aside0 (Below w.heap.size w w'))
    case atStart => exact ⟨((-1)), ((-1)), (0), (a2), (by first | rfl | (simp; done) | (simp [*]; done)), (by first | rfl | (simp; done) | (simp [*]; done)), (by first | rfl | (simp; done) | (simp [*]; done)), (by first | rfl | (simp; done) | (simp [*]; done)), H', ⟨Nat.le_refl _⟩, ⟨by (with_reducible repeat (first | refine blk_drewN ?_ _ | refine blk_drew ?_ | refine blk_alloc ?_ _)); exact BK101.out⟩, ⟨by repeat (first | (with_reducible first | exact HB.out | apply below_alloc | apply pw_below_drewN | apply below_drew1 | refine below_set ?_ GE101.out) | exact HB.out)⟩⟩
    case round =>
     clear H'
     try clear c1
     try clear p2
     try clear c5
     try clear c6
     try clear c6b0
     try clear c6b1
     try clear c9
     try clear c13
     try clear hcz11_0
     try clear hfz11_0
     try clear p2
     obtain ⟨x8_2, x9_2, x10_2, x11_2, rfl, rfl, rfl, rfl, HA, HK2, BK101, HB⟩ := hrel
     cases gk with
     | zero => exact absurd HA.out (by simp [impl_RunCode.l0])
     | succ k2 =>
      have H := HA.out
      clear HA
      simp only [impl_RunCode.l0] at H
      replace H := Option.bind_eq_some_iff.mp H
      obtain ⟨t105, A140, H⟩ := H
      replace H : (if x11_2 < t105 then (if 0 ≤ x10_2 then (if x10_2 < (l0_0.length : Int) then (if 0 ≤ x11_2 then (if x11_2 < (a1.size : Int) then ((impl_CBlock_to.f k2 ((rd_T99 l0_0 x10_2).f0) ((rd_T99 l0_0 x10_2).f1) ((rd_T99 l0_0 x10_2).f2) (bt a1 x11_2)).bind fun t107 => (if 0 ≤ t107 then (if t107 < (l0_0.length : Int) then (if ((rd_T99 l0_0 t107).f0) ≥ 0 then (impl_RunCode.l0 k2 a1 (wrap64 (x11_2 + 1)) ((rd_T99 l0_0 t107).f0) t107 (wrap64 (x11_2 + 1)) l0_0) else (impl_RunCode.l0 k2 a1 x8_2 x9_2 t107 (wrap64 (x11_2 + 1)) l0_0)) else (none)) else (none))) else (none)) else (none)) else (none)) else (none)) else (some (x8_2, x9_2))) = some (r1, r2) := H
      have A14 := Aside0.mk A140
      clear A140
      by_cases c15 : x11_2 < t105
      ·rw [if_pos c15] at H
       have c15b0 : decide (x11_2 < t105) = true := decide_eq_true c15
       clear c15
       by_cases c16 : 0 ≤ x10_2
       ·rw [if_pos c16] at H
        have c16b0 : decide (0 ≤ x10_2) = true := decide_eq_true c16
        clear c16
        by_cases c17 : x10_2 < (l0_0.length : Int)
        ·rw [if_pos c17] at H
         have c17b0 : decide (x10_2 < (l0_0.length : Int)) = true := decide_eq_true c17
         clear c17
         by_cases c18 : 0 ≤ x11_2
         ·rw [if_pos c18] at H
          have c18b0 : decide (0 ≤ x11_2) = true := decide_eq_true c18
          clear c18
          by_cases c19 : x11_2 < (a1.size : Int)
          ·rw [if_pos c19] at H
           have c19b0 : decide (x11_2 < (a1.size : Int)) = true := decide_eq_true c19
           clear c19
           replace H := Option.bind_eq_some_iff.mp H
           obtain ⟨t107, A210, H⟩ := H
           replace H : (if 0 ≤ t107 then (if t107 < (l0_0.length : Int) then (if ((rd_T99 l0_0 t107).f0) ≥ 0 then (impl_RunCode.l0 k2 a1 (wrap64 (x11_2 + 1)) ((rd_T99 l0_0 t107).f0) t107 (wrap64 (x11_2 + 1)) l0_0) else (impl_RunCode.l0 k2 a1 x8_2 x9_2 t107 (wrap64 (x11_2 + 1)) l0_0)) else (none)) else (none)) = some (r1, r2) := H
           have A21 := Aside0.mk A210
           clear A210
           by_cases c22 : 0 ≤ t107
           ·rw [if_pos c22] at H
            have c22b0 : decide (0 ≤ t107) = true := decide_eq_true c22
            clear c22
            by_cases c23 : t107 < (l0_0.length : Int)
            ·rw [if_pos c23] at H
             have c23b0 : decide (t107 < (l0_0.length : Int)) = true := decide_eq_true c23
             clear c23
             by_cases c24 : ((rd_T99 l0_0 t107).f0) ≥ 0
             ·rw [if_pos c24] at H
              have c24b0 : decide (0 ≤ ((rd_T99 l0_0 t107).f0)) = true := decide_eq_true c24
              clear c24
              have H' := Aside0.mk H
              clear H
              try go_wp2_with (first | ((with_reducible refine gate_callee (f := 74) rfl ?_); refine goesL_ (some 31) rfl rfl Try.func74 (by kernel_rfl) rfl #[.string a1] rfl (by (try simp only [List.map_toArray, List.map_cons, List.map_nil]); first | done | rfl | (simp only [List.length_drop, List.length_take]; rfl)) ?_; (with_reducible refine (impl_length.calls a1 t105 _ A14.out).mono ?_); rintro e w' ⟨rfl, ⟨nd, rfl⟩⟩; refine ⟨_, rfl, ?_⟩))
              (try (rw [drewN_self wr]; generalize hq_ : World.drewN wr _ = wr; have n0_ : Aside0 (wr.heap[gb101]? = some (.cells #[.slice A0_0 l0_0.length c0_0] 58 (0, 0))) := ⟨by rw [← hq_]; exact (by (with_reducible repeat (first | refine blk_drewN ?_ _ | refine blk_drew ?_ | refine blk_alloc ?_ _)); exact BK101.out)⟩; have n1_ : Aside0 (Below w.heap.size w wr) := ⟨by rw [← hq_]; exact (by repeat (first | (with_reducible first | exact HB.out | apply below_alloc | apply pw_below_drewN | apply below_drew1 | refine below_set ?_ GE101.out) | exact HB.out))⟩; clear BK101 HB hq_; have BK101 := n0_; have HB := n1_; clear n0_ n1_))
              have n0_ := Aside0.mk (blk_drew BK101.out)
              have n1_ := Aside0.mk (below_drew1 HB.out)
              clear BK101
              clear HB
              have BK101 := n0_
              have HB := n1_
              clear n0_ n1_
              have p106 : 0 ≤ (x10_2 : Int) := of_decide_eq_true (by first | (with_reducible assumption) | assumption)
              have q106 : x10_2 < (l0_0.length : Int) := of_decide_eq_true (by first | (with_reducible assumption) | assumption)
              obtain ⟨ad106, A106_1, c106_1, e106, hx106_0, hx106_1, hx106_2, hl106_1, hi106_1⟩ := at_T99 HR0_0.out x10_2 p106 q106
              have hw106_2 := hx106_2
              have hw106_1 := hx106_1
              have hw106_0 := hx106_0
              cases e106
              replace hx106_0 := (HB.out.cell (World.block_lt_of_cell? w _ hx106_0)).trans hx106_0
              replace hx106_1 := (HB.out.cell (World.block_lt_of_cell? w _ hx106_1)).trans hx106_1
              replace hx106_2 := (HB.out.cell (World.block_lt_of_cell? w _ hx106_2)).trans hx106_2
              have HR106_1 := Aside0.mk hi106_1
              have HC106_1 := Aside0.mk hl106_1
              clear hi106_1 hl106_1
              replace p106 := eq_true p106
              replace q106 := eq_true q106
              have p20 : 0 ≤ (x11_2 : Int) := of_decide_eq_true (by first | (with_reducible assumption) | assumption)
              have q20 : x11_2 < (a1.size : Int) := of_decide_eq_true (by first | (with_reducible assumption) | assumption)
              have hx20 := bt_at a1 x11_2
              replace p20 := eq_true p20
              replace q20 := eq_true q20
              refine start_ (n := 10) (S := fun w' => w'.cell? ⟨gb101, 0, none⟩ = some (.slice (some ad106) l0_0.length c0_0) ∧ w'.cell? (ad106.add ((x10_2).toNat * 3)) = some (.int .i64 ((rd_T99 l0_0 x10_2).f0)) ∧ w'.cell? ⟨(ad106.add ((x10_2).toNat * 3)).block, (ad106.add ((x10_2).toNat * 3)).off + 1, none⟩ = some (.slice A106_1 ((rd_T99 l0_0 x10_2).f1).length c106_1) ∧ w'.cell? ⟨(ad106.add ((x10_2).toNat * 3)).block, (ad106.add ((x10_2).toNat * 3)).off + 2, none⟩ = some (.int .i64 ((rd_T99 l0_0 x10_2).f2))) (ds := []) #[false, false, false, false, false, false, false, false, false, false] (by kernel_rfl) rfl rfl ⟨(blk_cell BK101.out 0).trans rfl, ((HB.out.cell (World.block_lt_of_cell? w _ hw106_0)).trans hw106_0), ((HB.out.cell (World.block_lt_of_cell? w _ hw106_1)).trans hw106_1), ((HB.out.cell (World.block_lt_of_cell? w _ hw106_2)).trans hw106_2)⟩ (fun hHeld => ?_); refine with_tabW impl_RunCode.tab7 impl_RunCode.bits7 (fun HT_ HW_ => ?_)
              generalize wr.drew = w25 at BK101 HB HR106_1 hx106_0 hx106_1 hx106_2 hHeld ⊢
              refine pure_ (i := 0) (N := some 35) (v := ?_) (a' := ?_) #[true, false, false, false, false, false, false, false, false, false] rfl rfl (any_of HT_.out (by kernel_rfl)) (fun _ _ _ h => h) (Or.inl ⟨by rfl, ?_⟩) ?_ ?_
              rotate_left
              ·intro w'
               go_simp
               with_reducible rfl
              rotate_left
              ·simp only [Act.put, List.setIfInBounds_toArray, List.set_cons_zero, List.set_cons_succ, i64_w, i32_w]
               rfl
              refine pure_ (i := 2) (N := some 37) (v := ?_) (a' := ?_) #[true, false, true, false, false, false, false, false, false, false] rfl rfl (any_of HT_.out (by kernel_rfl)) (fun _ _ _ h => h) (Or.inl ⟨by rfl, ?_⟩) ?_ ?_
              rotate_left
              ·intro w'
               go_simp
               with_reducible rfl
              rotate_left
              ·simp only [Act.put, List.setIfInBounds_toArray, List.set_cons_zero, List.set_cons_succ, i64_w, i32_w]
               rfl
              refine pure_ (i := 5) (N := some 40) (v := ?_) (a' := ?_) #[true, false, true, false, false, true, false, false, false, false] rfl rfl (any_of HT_.out (by kernel_rfl)) (fun _ _ _ h => h) (Or.inl ⟨by rfl, ?_⟩) ?_ ?_
              rotate_left
              ·intro w'
               go_simp
               with_reducible rfl
              rotate_left
              ·simp only [Act.put, List.setIfInBounds_toArray, List.set_cons_zero, List.set_cons_succ, i64_w, i32_w]
               rfl
              refine pure_ (i := 6) (N := some 41) (v := ?_) (a' := ?_) #[true, false, true, false, false, true, true, false, false, false] rfl rfl (any_of HT_.out (by kernel_rfl)) (fun _ _ _ h => h) (Or.inl ⟨by rfl, ?_⟩) ?_ ?_
              rotate_left
              ·intro w'
               go_simp
               with_reducible rfl
              rotate_left
              ·simp only [Act.put, List.setIfInBounds_toArray, List.set_cons_zero, List.set_cons_succ, i64_w, i32_w]
               rfl
              refine take_ (i := 1) (N := some 36) (v := ?_) (a' := ?_) #[true, true, true, false, false, true, true, false, false, false] rfl rfl (take_ofW HT_.out HW_.out (by kernel_rfl)) (fun _ _ _ h => h) (Or.inl ⟨by rfl, ?_⟩) hHeld ?_ ?_
              rotate_left
              ·rintro w' ⟨s0, s1, s2, s3⟩
               go_simp
               with_reducible rfl
              rotate_left
              ·simp only [Act.put, List.setIfInBounds_toArray, List.set_cons_zero, List.set_cons_succ, i64_w, i32_w]
               rfl
              refine pure_ (i := 3) (N := some 38) (v := ?_) (a' := ?_) #[true, true, true, true, false, true, true, false, false, false] rfl rfl (any_of HT_.out (by kernel_rfl)) (fun _ _ _ h => h) (Or.inl ⟨by rfl, ?_⟩) ?_ ?_
              rotate_left
              ·intro w'
               go_simp
               with_reducible rfl
              rotate_left
              ·simp only [Act.put, List.setIfInBounds_toArray, List.set_cons_zero, List.set_cons_succ, i64_w, i32_w]
               rfl
              refine take_ (i := 4) (N := some 39) (v := ?_) (a' := ?_) #[true, true, true, true, true, true, true, false, false, false] rfl rfl (take_ofW HT_.out HW_.out (by kernel_rfl)) (fun _ _ _ h => h) (Or.inl ⟨by rfl, ?_⟩) hHeld ?_ ?_
              rotate_left
              ·rintro w' ⟨s0, s1, s2, s3⟩
               go_simp
               with_reducible rfl
              rotate_left
              ·simp only [Act.put, List.setIfInBounds_toArray, List.set_cons_zero, List.set_cons_succ, i64_w, i32_w]
               rfl
              refine take_ (i := 7) (N := some 42) (v := ?_) (a' := ?_) #[true, true, true, true, true, true, true, true, false, false] rfl rfl (take_ofW HT_.out HW_.out (by kernel_rfl)) (fun _ _ _ h => h) (Or.inl ⟨by rfl, ?_⟩) hHeld ?_ ?_
              rotate_left
              ·rintro w' ⟨s0, s1, s2, s3⟩
               go_simp
               with_reducible rfl
              rotate_left
              ·simp only [Act.put, List.setIfInBounds_toArray, List.set_cons_zero, List.set_cons_succ, i64_w, i32_w]
               rfl
              refine one_ (i := 8) (N := some 43) #[true, true, true, true, true, true, true, true, true, false] rfl rfl (one_of HT_.out (by kernel_rfl)) (by decide) (fun K hK => ?_)
              refine goes_ Try.func88 (by kernel_rfl) rfl #[.agg #[.int .i64 ((rd_T99 l0_0 x10_2).f0), .slice A106_1 ((rd_T99 l0_0 x10_2).f1).length c106_1, .int .i64 ((rd_T99 l0_0 x10_2).f2)], .int .u8 (bt a1 x11_2)] (by rfl) rfl rfl (by (try simp only [List.map_toArray, List.map_cons, List.map_nil]); first | done | rfl | (simp only [List.length_drop, List.length_take]; rfl)) ?_
              with_reducible refine (impl_CBlock_to.calls k2 ((rd_T99 l0_0 x10_2).f0) _ _ ((rd_T99 l0_0 x10_2).f1) ((rd_T99 l0_0 x10_2).f2) (bt a1 x11_2) t107 _ ?side1 ?side2 A21.out).mono ?_
              (case side1 => repeat (first | exact (Kd.C_below HR106_1.out HB.out) | (with_reducible refine Kd.C_alloc ?_ _) | (with_reducible refine Kd.C_drewN ?_ _) | (with_reducible refine Kd.C_drew ?_)))
              (case side2 => exact HC106_1.out)
              rintro e w26 ⟨rfl, hb⟩
              refine ⟨_, rfl, ?_⟩
              have n0_ := Aside0.mk (blk_below (g := gb101) (o := .cells #[.slice (some ad106) l0_0.length c0_0] 58 (0, 0)) (by (with_reducible repeat (first | refine blk_drewN ?_ _ | refine blk_drew ?_ | refine blk_alloc ?_ _)); exact BK101.out) hb)
              have n1_ := Aside0.mk (below_step (by repeat (first | (with_reducible first | exact HB.out | apply below_alloc | apply pw_below_drewN | apply below_drew1 | refine below_set ?_ GE101.out) | exact HB.out)) hb)
              clear BK101
              clear HB
              have BK101 := n0_
              have HB := n1_
              clear n0_ n1_
              (try clear hb)
              (try clear hb2)
              (try clear hk)
              (try clear hi)
              refine hK.out _ _ ⟨(blk_cell BK101.out 0).trans rfl, ((HB.out.cell (World.block_lt_of_cell? w _ hw106_0)).trans hw106_0), ((HB.out.cell (World.block_lt_of_cell? w _ hw106_1)).trans hw106_1), ((HB.out.cell (World.block_lt_of_cell? w _ hw106_2)).trans hw106_2)⟩ (fun hHeld => ?_)
              clear hK K
              refine norm_ (a' := ?_) ?_ ?_
              rotate_left
              ·show Act.put _ (some 43) _ = _
               simp only [Act.put, List.setIfInBounds_toArray, List.set_cons_zero, List.set_cons_succ, i64_w, i32_w]
               rfl
              refine pure_ (i := 9) (N := some 10) (v := ?_) (a' := ?_) #[true, true, true, true, true, true, true, true, true, true] rfl rfl (any_of HT_.out (by kernel_rfl)) (fun _ _ _ h => h) (Or.inl ⟨by rfl, ?_⟩) ?_ ?_
              rotate_left
              ·intro w'
               go_simp
               with_reducible rfl
              rotate_left
              ·simp only [Act.put, List.setIfInBounds_toArray, List.set_cons_zero, List.set_cons_succ, i64_w, i32_w]
               rfl
              refine done_ (done_of HT_.out (by kernel_rfl)) ?_
              have hcz27_0 : w26.cell? ⟨gb101, 0, none⟩ = some (.slice (some ad106) l0_0.length c0_0) := (blk_cell BK101.out 0).trans rfl
              have hfz27_0 := blk_frozen BK101.out 0
              have p108 : 0 ≤ (t107 : Int) := of_decide_eq_true (by first | (with_reducible assumption) | assumption)
              have q108 : t107 < (l0_0.length : Int) := of_decide_eq_true (by first | (with_reducible assumption) | assumption)
              obtain ⟨ad108, A108_1, c108_1, e108, hx108_0, hx108_1, hx108_2, hl108_1, hi108_1⟩ := at_T99 HR0_0.out t107 p108 q108
              obtain rfl : ad106 = ad108 := (by injection e108)
              replace hx108_0 := (HB.out.cell (World.block_lt_of_cell? w _ hx108_0)).trans hx108_0
              replace hx108_1 := (HB.out.cell (World.block_lt_of_cell? w _ hx108_1)).trans hx108_1
              replace hx108_2 := (HB.out.cell (World.block_lt_of_cell? w _ hx108_2)).trans hx108_2
              have HR108_1 := Aside0.mk hi108_1
              have HC108_1 := Aside0.mk hl108_1
              clear hi108_1 hl108_1
              replace p108 := eq_true p108
              replace q108 := eq_true q108
              try go_wp2
              go_roundg k2
              case measure => have := HJ3.out; have := HK2.out; omega
              case rel => exact ⟨(wrap64 (x11_2 + 1)), ((rd_T99 l0_0 t107).f0), (t107), (wrap64 (x11_2 + 1)), (by first | rfl | (simp; done) | (simp [*]; done)), (by first | rfl | (simp; done) | (simp [*]; done)), (by first | rfl | (simp; done) | (simp [*]; done)), (by first | rfl | (simp; done) | (simp [*]; done)), H', ⟨by have := HJ3.out; have := HK2.out; omega⟩, ⟨by (with_reducible repeat (first | refine blk_drewN ?_ _ | refine blk_drew ?_ | refine blk_alloc ?_ _)); exact BK101.out⟩, ⟨by repeat (first | (with_reducible first | exact HB.out | apply below_alloc | apply pw_below_drewN | apply below_drew1 | refine below_set ?_ GE101.out) | exact HB.out)⟩⟩
             ·rw [if_neg c24] at H
              have c24b0 : decide (0 ≤ ((rd_T99 l0_0 t107).f0)) = false := decide_eq_false c24
              clear c24
              have H' := Aside0.mk H
              clear H
              try go_wp2_with (first | ((with_reducible refine gate_callee (f := 74) rfl ?_); refine goesL_ (some 31) rfl rfl Try.func74 (by kernel_rfl) rfl #[.string a1] rfl (by (try simp only [List.map_toArray, List.map_cons, List.map_nil]); first | done | rfl | (simp only [List.length_drop, List.length_take]; rfl)) ?_; (with_reducible refine (impl_length.calls a1 t105 _ A14.out).mono ?_); rintro e w' ⟨rfl, ⟨nd, rfl⟩⟩; refine ⟨_, rfl, ?_⟩))
              (try (rw [drewN_self wr]; generalize hq_ : World.drewN wr _ = wr; have n0_ : Aside0 (wr.heap[gb101]? = some (.cells #[.slice A0_0 l0_0.length c0_0] 58 (0, 0))) := ⟨by rw [← hq_]; exact (by (with_reducible repeat (first | refine blk_drewN ?_ _ | refine blk_drew ?_ | refine blk_alloc ?_ _)); exact BK101.out)⟩; have n1_ : Aside0 (Below w.heap.size w wr) := ⟨by rw [← hq_]; exact (by repeat (first | (with_reducible first | exact HB.out | apply below_alloc | apply pw_below_drewN | apply below_drew1 | refine below_set ?_ GE101.out) | exact HB.out))⟩; clear BK101 HB hq_; have BK101 := n0_; have HB := n1_; clear n0_ n1_))
              have n0_ := Aside0.mk (blk_drew BK101.out)
              have n1_ := Aside0.mk (below_drew1 HB.out)
              clear BK101
              clear HB
              have BK101 := n0_
              have HB := n1_
              clear n0_ n1_
              have p106 : 0 ≤ (x10_2 : Int) := of_decide_eq_true (by first | (with_reducible assumption) | assumption)
              have q106 : x10_2 < (l0_0.length : Int) := of_decide_eq_true (by first | (with_reducible assumption) | assumption)
              obtain ⟨ad106, A106_1, c106_1, e106, hx106_0, hx106_1, hx106_2, hl106_1, hi106_1⟩ := at_T99 HR0_0.out x10_2 p106 q106
              have hw106_2 := hx106_2
              have hw106_1 := hx106_1
              have hw106_0 := hx106_0
              cases e106
              replace hx106_0 := (HB.out.cell (World.block_lt_of_cell? w _ hx106_0)).trans hx106_0
              replace hx106_1 := (HB.out.cell (World.block_lt_of_cell? w _ hx106_1)).trans hx106_1
              replace hx106_2 := (HB.out.cell (World.block_lt_of_cell? w _ hx106_2)).trans hx106_2
              have HR106_1 := Aside0.mk hi106_1
              have HC106_1 := Aside0.mk hl106_1
              clear hi106_1 hl106_1
              replace p106 := eq_true p106
              replace q106 := eq_true q106
              have p20 : 0 ≤ (x11_2 : Int) := of_decide_eq_true (by first | (with_reducible assumption) | assumption)
              have q20 : x11_2 < (a1.size : Int) := of_decide_eq_true (by first | (with_reducible assumption) | assumption)
              have hx20 := bt_at a1 x11_2
              replace p20 := eq_true p20
              replace q20 := eq_true q20
              refine start_ (n := 10) (S := fun w' => w'.cell? ⟨gb101, 0, none⟩ = some (.slice (some ad106) l0_0.length c0_0) ∧ w'.cell? (ad106.add ((x10_2).toNat * 3)) = some (.int .i64 ((rd_T99 l0_0 x10_2).f0)) ∧ w'.cell? ⟨(ad106.add ((x10_2).toNat * 3)).block, (ad106.add ((x10_2).toNat * 3)).off + 1, none⟩ = some (.slice A106_1 ((rd_T99 l0_0 x10_2).f1).length c106_1) ∧ w'.cell? ⟨(ad106.add ((x10_2).toNat * 3)).block, (ad106.add ((x10_2).toNat * 3)).off + 2, none⟩ = some (.int .i64 ((rd_T99 l0_0 x10_2).f2))) (ds := []) #[false, false, false, false, false, false, false, false, false, false] (by kernel_rfl) rfl rfl ⟨(blk_cell BK101.out 0).trans rfl, ((HB.out.cell (World.block_lt_of_cell? w _ hw106_0)).trans hw106_0), ((HB.out.cell (World.block_lt_of_cell? w _ hw106_1)).trans hw106_1), ((HB.out.cell (World.block_lt_of_cell? w _ hw106_2)).trans hw106_2)⟩ (fun hHeld => ?_); refine with_tabW impl_RunCode.tab7 impl_RunCode.bits7 (fun HT_ HW_ => ?_)
              generalize wr.drew = w28 at BK101 HB HR106_1 hx106_0 hx106_1 hx106_2 hHeld ⊢
              refine pure_ (i := 0) (N := some 35) (v := ?_) (a' := ?_) #[true, false, false, false, false, false, false, false, false, false] rfl rfl (any_of HT_.out (by kernel_rfl)) (fun _ _ _ h => h) (Or.inl ⟨by rfl, ?_⟩) ?_ ?_
              rotate_left
              ·intro w'
               go_simp
               with_reducible rfl
              rotate_left
              ·simp only [Act.put, List.setIfInBounds_toArray, List.set_cons_zero, List.set_cons_succ, i64_w, i32_w]
               rfl
              refine pure_ (i := 2) (N := some 37) (v := ?_) (a' := ?_) #[true, false, true, false, false, false, false, false, false, false] rfl rfl (any_of HT_.out (by kernel_rfl)) (fun _ _ _ h => h) (Or.inl ⟨by rfl, ?_⟩) ?_ ?_
              rotate_left
              ·intro w'
               go_simp
               with_reducible rfl
              rotate_left
              ·simp only [Act.put, List.setIfInBounds_toArray, List.set_cons_zero, List.set_cons_succ, i64_w, i32_w]
               rfl
              refine pure_ (i := 5) (N := some 40) (v := ?_) (a' := ?_) #[true, false, true, false, false, true, false, false, false, false] rfl rfl (any_of HT_.out (by kernel_rfl)) (fun _ _ _ h => h) (Or.inl ⟨by rfl, ?_⟩) ?_ ?_
              rotate_left
              ·intro w'
               go_simp
               with_reducible rfl
              rotate_left
              ·simp only [Act.put, List.setIfInBounds_toArray, List.set_cons_zero, List.set_cons_succ, i64_w, i32_w]
               rfl
              refine pure_ (i := 6) (N := some 41) (v := ?_) (a' := ?_) #[true, false, true, false, false, true, true, false, false, false] rfl rfl (any_of HT_.out (by kernel_rfl)) (fun _ _ _ h => h) (Or.inl ⟨by rfl, ?_⟩) ?_ ?_
              rotate_left
              ·intro w'
               go_simp
               with_reducible rfl
              rotate_left
              ·simp only [Act.put, List.setIfInBounds_toArray, List.set_cons_zero, List.set_cons_succ, i64_w, i32_w]
               rfl
              refine take_ (i := 1) (N := some 36) (v := ?_) (a' := ?_) #[true, true, true, false, false, true, true, false, false, false] rfl rfl (take_ofW HT_.out HW_.out (by kernel_rfl)) (fun _ _ _ h => h) (Or.inl ⟨by rfl, ?_⟩) hHeld ?_ ?_
              rotate_left
              ·rintro w' ⟨s0, s1, s2, s3⟩
               go_simp
               with_reducible rfl
              rotate_left
              ·simp only [Act.put, List.setIfInBounds_toArray, List.set_cons_zero, List.set_cons_succ, i64_w, i32_w]
               rfl
              refine pure_ (i := 3) (N := some 38) (v := ?_) (a' := ?_) #[true, true, true, true, false, true, true, false, false, false] rfl rfl (any_of HT_.out (by kernel_rfl)) (fun _ _ _ h => h) (Or.inl ⟨by rfl, ?_⟩) ?_ ?_
              rotate_left
              ·intro w'
               go_simp
               with_reducible rfl
              rotate_left
              ·simp only [Act.put, List.setIfInBounds_toArray, List.set_cons_zero, List.set_cons_succ, i64_w, i32_w]
               rfl
              refine take_ (i := 4) (N := some 39) (v := ?_) (a' := ?_) #[true, true, true, true, true, true, true, false, false, false] rfl rfl (take_ofW HT_.out HW_.out (by kernel_rfl)) (fun _ _ _ h => h) (Or.inl ⟨by rfl, ?_⟩) hHeld ?_ ?_
              rotate_left
              ·rintro w' ⟨s0, s1, s2, s3⟩
               go_simp
               with_reducible rfl
              rotate_left
              ·simp only [Act.put, List.setIfInBounds_toArray, List.set_cons_zero, List.set_cons_succ, i64_w, i32_w]
               rfl
              refine take_ (i := 7) (N := some 42) (v := ?_) (a' := ?_) #[true, true, true, true, true, true, true, true, false, false] rfl rfl (take_ofW HT_.out HW_.out (by kernel_rfl)) (fun _ _ _ h => h) (Or.inl ⟨by rfl, ?_⟩) hHeld ?_ ?_
              rotate_left
              ·rintro w' ⟨s0, s1, s2, s3⟩
               go_simp
               with_reducible rfl
              rotate_left
              ·simp only [Act.put, List.setIfInBounds_toArray, List.set_cons_zero, List.set_cons_succ, i64_w, i32_w]
               rfl
              refine one_ (i := 8) (N := some 43) #[true, true, true, true, true, true, true, true, true, false] rfl rfl (one_of HT_.out (by kernel_rfl)) (by decide) (fun K hK => ?_)
              refine goes_ Try.func88 (by kernel_rfl) rfl #[.agg #[.int .i64 ((rd_T99 l0_0 x10_2).f0), .slice A106_1 ((rd_T99 l0_0 x10_2).f1).length c106_1, .int .i64 ((rd_T99 l0_0 x10_2).f2)], .int .u8 (bt a1 x11_2)] (by rfl) rfl rfl (by (try simp only [List.map_toArray, List.map_cons, List.map_nil]); first | done | rfl | (simp only [List.length_drop, List.length_take]; rfl)) ?_
              with_reducible refine (impl_CBlock_to.calls k2 ((rd_T99 l0_0 x10_2).f0) _ _ ((rd_T99 l0_0 x10_2).f1) ((rd_T99 l0_0 x10_2).f2) (bt a1 x11_2) t107 _ ?side1 ?side2 A21.out).mono ?_
              (case side1 => repeat (first | exact (Kd.C_below HR106_1.out HB.out) | (with_reducible refine Kd.C_alloc ?_ _) | (with_reducible refine Kd.C_drewN ?_ _) | (with_reducible refine Kd.C_drew ?_)))
              (case side2 => exact HC106_1.out)
              rintro e w29 ⟨rfl, hb⟩
              refine ⟨_, rfl, ?_⟩
              have n0_ := Aside0.mk (blk_below (g := gb101) (o := .cells #[.slice (some ad106) l0_0.length c0_0] 58 (0, 0)) (by (with_reducible repeat (first | refine blk_drewN ?_ _ | refine blk_drew ?_ | refine blk_alloc ?_ _)); exact BK101.out) hb)
              have n1_ := Aside0.mk (below_step (by repeat (first | (with_reducible first | exact HB.out | apply below_alloc | apply pw_below_drewN | apply below_drew1 | refine below_set ?_ GE101.out) | exact HB.out)) hb)
              clear BK101
              clear HB
              have BK101 := n0_
              have HB := n1_
              clear n0_ n1_
              (try clear hb)
              (try clear hb2)
              (try clear hk)
              (try clear hi)
              refine hK.out _ _ ⟨(blk_cell BK101.out 0).trans rfl, ((HB.out.cell (World.block_lt_of_cell? w _ hw106_0)).trans hw106_0), ((HB.out.cell (World.block_lt_of_cell? w _ hw106_1)).trans hw106_1), ((HB.out.cell (World.block_lt_of_cell? w _ hw106_2)).trans hw106_2)⟩ (fun hHeld => ?_)
              clear hK K
              refine norm_ (a' := ?_) ?_ ?_
              rotate_left
              ·show Act.put _ (some 43) _ = _
               simp only [Act.put, List.setIfInBounds_toArray, List.set_cons_zero, List.set_cons_succ, i64_w, i32_w]
               rfl
              refine pure_ (i := 9) (N := some 10) (v := ?_) (a' := ?_) #[true, true, true, true, true, true, true, true, true, true] rfl rfl (any_of HT_.out (by kernel_rfl)) (fun _ _ _ h => h) (Or.inl ⟨by rfl, ?_⟩) ?_ ?_
              rotate_left
              ·intro w'
               go_simp
               with_reducible rfl
              rotate_left
              ·simp only [Act.put, List.setIfInBounds_toArray, List.set_cons_zero, List.set_cons_succ, i64_w, i32_w]
               rfl
              refine done_ (done_of HT_.out (by kernel_rfl)) ?_
              have hcz30_0 : w29.cell? ⟨gb101, 0, none⟩ = some (.slice (some ad106) l0_0.length c0_0) := (blk_cell BK101.out 0).trans rfl
              have hfz30_0 := blk_frozen BK101.out 0
              have p108 : 0 ≤ (t107 : Int) := of_decide_eq_true (by first | (with_reducible assumption) | assumption)
              have q108 : t107 < (l0_0.length : Int) := of_decide_eq_true (by first | (with_reducible assumption) | assumption)
              obtain ⟨ad108, A108_1, c108_1, e108, hx108_0, hx108_1, hx108_2, hl108_1, hi108_1⟩ := at_T99 HR0_0.out t107 p108 q108
              obtain rfl : ad106 = ad108 := (by injection e108)
              replace hx108_0 := (HB.out.cell (World.block_lt_of_cell? w _ hx108_0)).trans hx108_0
              replace hx108_1 := (HB.out.cell (World.block_lt_of_cell? w _ hx108_1)).trans hx108_1
              replace hx108_2 := (HB.out.cell (World.block_lt_of_cell? w _ hx108_2)).trans hx108_2
              have HR108_1 := Aside0.mk hi108_1
              have HC108_1 := Aside0.mk hl108_1
              clear hi108_1 hl108_1
              replace p108 := eq_true p108
              replace q108 := eq_true q108
              try go_wp2
              go_roundg k2
              case measure => have := HJ3.out; have := HK2.out; omega
              case rel => exact ⟨(x8_2), (x9_2), (t107), (wrap64 (x11_2 + 1)), (by first | rfl | (simp; done) | (simp [*]; done)), (by first | rfl | (simp; done) | (simp [*]; done)), (by first | rfl | (simp; done) | (simp [*]; done)), (by first | rfl | (simp; done) | (simp [*]; done)), H', ⟨by have := HJ3.out; have := HK2.out; omega⟩, ⟨by (with_reducible repeat (first | refine blk_drewN ?_ _ | refine blk_drew ?_ | refine blk_alloc ?_ _)); exact BK101.out⟩, ⟨by repeat (first | (with_reducible first | exact HB.out | apply below_alloc | apply pw_below_drewN | apply below_drew1 | refine below_set ?_ GE101.out) | exact HB.out)⟩⟩
            ·rw [if_neg c23] at H
             exact absurd H (by simp)
           ·rw [if_neg c22] at H
            exact absurd H (by simp)
          ·rw [if_neg c19] at H
           exact absurd H (by simp)
         ·rw [if_neg c18] at H
          exact absurd H (by simp)
        ·rw [if_neg c17] at H
         exact absurd H (by simp)
       ·rw [if_neg c16] at H
        exact absurd H (by simp)
      ·rw [if_neg c15] at H
       have c15b0 : decide (x11_2 < t105) = false := decide_eq_false c15
       clear c15
       simp only [Option.some.injEq, Prod.mk.injEq] at H
       obtain ⟨rfl, rfl⟩ := H
       go_wp2_with (first | ((with_reducible refine gate_callee (f := 74) rfl ?_); refine goesL_ (some 31) rfl rfl Try.func74 (by kernel_rfl) rfl #[.string a1] rfl (by (try simp only [List.map_toArray, List.map_cons, List.map_nil]); first | done | rfl | (simp only [List.length_drop, List.length_take]; rfl)) ?_; (with_reducible refine (impl_length.calls a1 t105 _ A14.out).mono ?_); rintro e w' ⟨rfl, ⟨nd, rfl⟩⟩; refine ⟨_, rfl, ?_⟩))
       go_ret2
       exact ⟨by first | rfl | (simp [errW_none, errW_some] <;> rfl) | (simp [*, errW_none, errW_some] <;> rfl), by repeat (first | (with_reducible first | exact HB.out | apply below_alloc | apply pw_below_drewN | apply below_drew1 | refine below_set ?_ GE101.out) | exact HB.out)⟩

end Go.Proofs.Ytimdoghlnegpgaa.P
-- Made by wip/gen/pp.py of this session over the kit's print of the loaded program: a function, and the contract of its walk. Lean checks it.
namespace Go.Proofs.Ytimdoghlnegpgaa.P
open Go.RowKit Go.Proofs.YtimdoghlnegpgaaW.PrintWords Go.Proofs.YtimdoghlnegpgaaW.PrintLast Go.Proofs.YtimdoghlnegpgaaW.PrintMore
attribute [local go_sem] max2_int min2_int max_two min_two max_three min_three max_four min_four   -- for this text's walks alone
set_option linter.unusedVariables false
set_option linter.unusedSimpArgs false

/-! ### laws_FnExactRunCode: function 11 -/
def laws_FnExactRunCode.j0 : Nat → Bool → List (S124) → List (S99) → Option (Bool)
 | 0, _, _, _ => none
 | k + 1, x45, x102000, x112000 => if x45 = true then (some false) else ((laws_toCode.f k x102000).bind fun t114 => ((laws_eqCode.f k x112000 t114).bind fun t117 => (if t117 = true then (some true) else (some false))))
def laws_FnExactRunCode.f (k : Nat) (l0_0 : List (S124)) (a1 : ByteArray) (a2 : Int) : Option (Bool) := if (a1.size : Int) > 1048576 then (some true) else ((laws_szCode.f k l0_0 1048576).bind fun t102 => (if t102 < 0 then (some true) else ((laws_toCode.f k l0_0).bind fun t103 => ((spec_RunCode.f k t103 a1 a2).bind fun bt106 => ((laws_toCode.f k l0_0).bind fun t108 => ((impl_RunCode.f k t108 a1 a2).bind fun bt112 => (if bt112.1 = bt106.1 then (laws_FnExactRunCode.j0 k (bt112.2 != bt106.2) l0_0 t108) else (laws_FnExactRunCode.j0 k true l0_0 t108))))))))
theorem laws_FnExactRunCode.mono_l : ∀ k, (∀ y0 y1 y2, LeO (laws_FnExactRunCode.j0 k y0 y1 y2) (laws_FnExactRunCode.j0 (k + 1) y0 y1 y2))
 | 0 => fun _ _ _ r h => by simp [laws_FnExactRunCode.j0] at h
 | k + 1 => by
  have ih0 := laws_FnExactRunCode.mono_l k
  ·intro y0 y1 y2
   unfold laws_FnExactRunCode.j0
   repeat' first
   | (with_reducible exact ih0 _ _ _)
   | (with_reducible exact impl_RunCode.mono _ _ _ _)
   | (with_reducible exact laws_eqCode.mono _ _ _)
   | (with_reducible exact laws_szCode.mono _ _ _)
   | (with_reducible exact laws_toCode.mono _ _)
   | (with_reducible exact spec_RunCode.mono _ _ _ _)
   | (with_reducible exact LeO.refl _)
   | (with_reducible exact LeO.none _)
   | (with_reducible refine LeO.ite ?_ ?_)
   | (with_reducible refine LeO.bind ?_ (fun _ => ?_))
   | exact ih0 _ _ _
   | exact impl_RunCode.mono _ _ _ _
   | exact laws_eqCode.mono _ _ _
   | exact laws_szCode.mono _ _ _
   | exact laws_toCode.mono _ _
   | exact spec_RunCode.mono _ _ _ _
   | exact LeO.none _
   | refine LeO.ite ?_ ?_
   | refine LeO.bind ?_ (fun _ => ?_)
theorem laws_FnExactRunCode.mono : ∀ a0 a1 a2 k, LeO (laws_FnExactRunCode.f k a0 a1 a2) (laws_FnExactRunCode.f (k + 1) a0 a1 a2) := by
 intro a0 a1 a2 k
 have ih0 := laws_FnExactRunCode.mono_l k
 unfold laws_FnExactRunCode.f
 repeat' first
   | (with_reducible exact ih0 _ _ _)
   | (with_reducible exact impl_RunCode.mono _ _ _ _)
   | (with_reducible exact laws_eqCode.mono _ _ _)
   | (with_reducible exact laws_szCode.mono _ _ _)
   | (with_reducible exact laws_toCode.mono _ _)
   | (with_reducible exact spec_RunCode.mono _ _ _ _)
   | (with_reducible exact LeO.refl _)
   | (with_reducible exact LeO.none _)
   | (with_reducible refine LeO.ite ?_ ?_)
   | (with_reducible refine LeO.bind ?_ (fun _ => ?_))
   | exact ih0 _ _ _
   | exact impl_RunCode.mono _ _ _ _
   | exact laws_eqCode.mono _ _ _
   | exact laws_szCode.mono _ _ _
   | exact laws_toCode.mono _ _
   | exact spec_RunCode.mono _ _ _ _
   | exact LeO.none _
   | refine LeO.ite ?_ ?_
   | refine LeO.bind ?_ (fun _ => ?_)
set_option maxHeartbeats 8000000 in
set_option maxRecDepth 100000 in
theorem laws_FnExactRunCode.calls (k : Nat) (A0_0 : Option Addr) (c0_0 : Nat) (l0_0 : List (S124)) (a1 : ByteArray) (a2 : Int) (r : Bool) (w : World) (hr0_0 : Kd.C k124 w A0_0 l0_0.length l0_0) (hc0_0 : l0_0.length ≤ c0_0) (h : laws_FnExactRunCode.f k l0_0 a1 a2 = some r) :
  Calls Try.prog 11 #[.agg #[.slice A0_0 l0_0.length c0_0], .string a1, .int .i64 a2] w fun e w' => e = .returned (.bool r) ∧ Below w.heap.size w w' := by
 have hu53 := Try.underlying53
 have hu58 := Try.underlying58
 have HR0_0 := Aside0.mk hr0_0
 have HC0_0 := Aside0.mk hc0_0
 clear hr0_0 hc0_0
 have HB := Aside0.mk (Below.refl w.heap.size w)
 have H : (if (a1.size : Int) > 1048576 then (some true) else ((laws_szCode.f k l0_0 1048576).bind fun t102 => (if t102 < 0 then (some true) else ((laws_toCode.f k l0_0).bind fun t103 => ((spec_RunCode.f k t103 a1 a2).bind fun bt106 => ((laws_toCode.f k l0_0).bind fun t108 => ((impl_RunCode.f k t108 a1 a2).bind fun bt112 => (if bt112.1 = bt106.1 then (laws_FnExactRunCode.j0 k (bt112.2 != bt106.2) l0_0 t108) else (laws_FnExactRunCode.j0 k true l0_0 t108))))))))) = some r := h
 clear h
 by_cases c4 : (a1.size : Int) > 1048576
 ·rw [if_pos c4] at H
  have c4b0 : decide (1048576 < (a1.size : Int)) = true := decide_eq_true c4
  have c4b1 : decide (1048576 < a1.size) = true := decide_eq_true (by omega)
  clear c4
  obtain rfl := Option.some.inj H
  go_enter Try.func11, Try.ntmps11
  go_wp2_with (first | ((with_reducible refine gate_dst (N := 3) rfl ?_); refine box_event ?hg (N := 3) ?hd (cs := #[.slice A0_0 l0_0.length c0_0]) (t := 53) ?hr ?_; (case hd => rfl); (case hg => rfl); (case hr => first | (go_simp; done) | (go_simp; rfl)); intro gb101 hg w5 hbox hb; have n0_ := Aside0.mk (below_step (by repeat (first | (with_reducible first | exact HB.out | apply below_alloc | apply pw_below_drewN | apply below_drew1) | exact HB.out)) hb); have n1_ := Aside0.mk (hbox); have n2_ := Aside0.mk ((by rw [hg]; exact (below_size (by repeat (first | (with_reducible first | exact HB.out | apply below_alloc | apply pw_below_drewN | apply below_drew1) | exact HB.out))) : w.heap.size ≤ gb101)); have n3_ := Aside0.mk ((by rw [hg]; exact (below_size (by repeat (first | (with_reducible first | exact HB.out | apply below_alloc | apply pw_below_drewN | apply below_drew1) | exact HB.out))) : w.heap.size ≤ gb101)); clear HB; have HB := n0_; have BK101 := n1_; have GW101 := n2_; have GE101 := n3_; clear n0_ n1_ n2_ n3_; clear hb hbox hg))
  go_ret
  exact ⟨by first | rfl | (simp [errW_none, errW_some] <;> rfl) | (simp [*, errW_none, errW_some] <;> rfl), by repeat (first | (with_reducible first | exact HB.out | apply below_alloc | apply pw_below_drewN | apply below_drew1 | refine below_set ?_ GE101.out) | exact HB.out)⟩
 ·rw [if_neg c4] at H
  have c4b0 : decide (1048576 < (a1.size : Int)) = false := decide_eq_false c4
  have c4b1 : decide (1048576 < a1.size) = false := decide_eq_false (by omega)
  clear c4
  replace H := Option.bind_eq_some_iff.mp H
  obtain ⟨t102, A60, H⟩ := H
  replace H : (if t102 < 0 then (some true) else ((laws_toCode.f k l0_0).bind fun t103 => ((spec_RunCode.f k t103 a1 a2).bind fun bt106 => ((laws_toCode.f k l0_0).bind fun t108 => ((impl_RunCode.f k t108 a1 a2).bind fun bt112 => (if bt112.1 = bt106.1 then (laws_FnExactRunCode.j0 k (bt112.2 != bt106.2) l0_0 t108) else (laws_FnExactRunCode.j0 k true l0_0 t108))))))) = some r := H
  have A6 := Aside0.mk A60
  clear A60
  by_cases c7 : t102 < 0
  ·rw [if_pos c7] at H
   have c7b0 : decide (t102 < 0) = true := decide_eq_true c7
   clear c7
   obtain rfl := Option.some.inj H
   go_enter Try.func11, Try.ntmps11
   go_wp2_with (first | ((with_reducible refine gate_dst (N := 3) rfl ?_); refine box_event ?hg (N := 3) ?hd (cs := #[.slice A0_0 l0_0.length c0_0]) (t := 53) ?hr ?_; (case hd => rfl); (case hg => rfl); (case hr => first | (go_simp; done) | (go_simp; rfl)); intro gb101 hg w8 hbox hb; have n0_ := Aside0.mk (below_step (by repeat (first | (with_reducible first | exact HB.out | apply below_alloc | apply pw_below_drewN | apply below_drew1) | exact HB.out)) hb); have n1_ := Aside0.mk (hbox); have n2_ := Aside0.mk ((by rw [hg]; exact (below_size (by repeat (first | (with_reducible first | exact HB.out | apply below_alloc | apply pw_below_drewN | apply below_drew1) | exact HB.out))) : w.heap.size ≤ gb101)); have n3_ := Aside0.mk ((by rw [hg]; exact (below_size (by repeat (first | (with_reducible first | exact HB.out | apply below_alloc | apply pw_below_drewN | apply below_drew1) | exact HB.out))) : w.heap.size ≤ gb101)); clear HB; have HB := n0_; have BK101 := n1_; have GW101 := n2_; have GE101 := n3_; clear n0_ n1_ n2_ n3_; clear hb hbox hg; have hcz9_0 : w8.cell? ⟨gb101, 0, none⟩ = some (.slice A0_0 l0_0.length c0_0) := (blk_cell BK101.out 0).trans rfl; have hfz9_0 := blk_frozen BK101.out 0) | ((with_reducible refine gate_callee (f := 41) rfl ?_); refine goesL_ (some 18) rfl rfl Try.func41 (by kernel_rfl) rfl #[.agg #[.slice A0_0 l0_0.length c0_0], .int .i64 1048576] rfl (by (try simp only [List.map_toArray, List.map_cons, List.map_nil]); first | done | rfl | (simp only [List.length_drop, List.length_take]; rfl)) ?_; (with_reducible refine (laws_szCode.calls k _ _ l0_0 1048576 t102 _ ?side1 ?side2 A6.out).mono ?_); (case side1 => repeat (first | exact (Kd.C_below HR0_0.out HB.out) | (with_reducible refine Kd.C_alloc ?_ _) | (with_reducible refine Kd.C_drewN ?_ _) | (with_reducible refine Kd.C_drew ?_))); (case side2 => exact HC0_0.out); rintro e w10 ⟨rfl, hb⟩; refine ⟨_, rfl, ?_⟩; have n0_ := Aside0.mk (blk_below (g := gb101) (o := .cells #[.slice A0_0 l0_0.length c0_0] 53 (0, 0)) (by (with_reducible repeat (first | refine blk_drewN ?_ _ | refine blk_drew ?_ | refine blk_alloc ?_ _)); exact BK101.out) hb); have n1_ := Aside0.mk (below_step (by repeat (first | (with_reducible first | exact HB.out | apply below_alloc | apply pw_below_drewN | apply below_drew1 | refine below_set ?_ GE101.out) | exact HB.out)) hb); clear BK101; clear HB; have BK101 := n0_; have HB := n1_; clear n0_ n1_; (try clear hb); (try clear hb2); (try clear hk); (try clear hi)))
   go_ret
   exact ⟨by first | rfl | (simp [errW_none, errW_some] <;> rfl) | (simp [*, errW_none, errW_some] <;> rfl), by repeat (first | (with_reducible first | exact HB.out | apply below_alloc | apply pw_below_drewN | apply below_drew1 | refine below_set ?_ GE101.out) | exact HB.out)⟩
  ·rw [if_neg c7] at H
   have c7b0 : decide (t102 < 0) = false := decide_eq_false c7
   clear c7
   replace H := Option.bind_eq_some_iff.mp H
   obtain ⟨t103, A110, H⟩ := H
   replace H : ((spec_RunCode.f k t103 a1 a2).bind fun bt106 => ((laws_toCode.f k l0_0).bind fun t108 => ((impl_RunCode.f k t108 a1 a2).bind fun bt112 => (if bt112.1 = bt106.1 then (laws_FnExactRunCode.j0 k (bt112.2 != bt106.2) l0_0 t108) else (laws_FnExactRunCode.j0 k true l0_0 t108))))) = some r := H
   have A11 := Aside0.mk A110
   clear A110
   replace H := Option.bind_eq_some_iff.mp H
   obtain ⟨⟨t106, t107⟩, A120, H⟩ := H
   replace H : ((laws_toCode.f k l0_0).bind fun t108 => ((impl_RunCode.f k t108 a1 a2).bind fun bt112 => (if bt112.1 = t106 then (laws_FnExactRunCode.j0 k (bt112.2 != t107) l0_0 t108) else (laws_FnExactRunCode.j0 k true l0_0 t108)))) = some r := H
   have A12 := Aside0.mk A120
   clear A120
   replace H := Option.bind_eq_some_iff.mp H
   obtain ⟨t108, A130, H⟩ := H
   replace H : ((impl_RunCode.f k t108 a1 a2).bind fun bt112 => (if bt112.1 = t106 then (laws_FnExactRunCode.j0 k (bt112.2 != t107) l0_0 t108) else (laws_FnExactRunCode.j0 k true l0_0 t108))) = some r := H
   have A13 := Aside0.mk A130
   clear A130
   replace H := Option.bind_eq_some_iff.mp H
   obtain ⟨⟨t112, t113⟩, A140, H⟩ := H
   replace H : (if t112 = t106 then (laws_FnExactRunCode.j0 k (t113 != t107) l0_0 t108) else (laws_FnExactRunCode.j0 k true l0_0 t108)) = some r := H
   have A14 := Aside0.mk A140
   clear A140
   have HC15 := Aside0.mk H
   clear H
   go_enter Try.func11, Try.ntmps11
   go_upto_region 10 with (first | ((with_reducible refine gate_dst (N := 3) rfl ?_); refine box_event ?hg (N := 3) ?hd (cs := #[.slice A0_0 l0_0.length c0_0]) (t := 53) ?hr ?_; (case hd => rfl); (case hg => rfl); (case hr => first | (go_simp; done) | (go_simp; rfl)); intro gb101 hg w16 hbox hb; have n0_ := Aside0.mk (below_step (by repeat (first | (with_reducible first | exact HB.out | apply below_alloc | apply pw_below_drewN | apply below_drew1) | exact HB.out)) hb); have n1_ := Aside0.mk (hbox); have n2_ := Aside0.mk ((by rw [hg]; exact (below_size (by repeat (first | (with_reducible first | exact HB.out | apply below_alloc | apply pw_below_drewN | apply below_drew1) | exact HB.out))) : w.heap.size ≤ gb101)); have n3_ := Aside0.mk ((by rw [hg]; exact (below_size (by repeat (first | (with_reducible first | exact HB.out | apply below_alloc | apply pw_below_drewN | apply below_drew1) | exact HB.out))) : w.heap.size ≤ gb101)); clear HB; have HB := n0_; have BK101 := n1_; have GW101 := n2_; have GE101 := n3_; clear n0_ n1_ n2_ n3_; clear hb hbox hg; have hcz17_0 : w16.cell? ⟨gb101, 0, none⟩ = some (.slice A0_0 l0_0.length c0_0) := (blk_cell BK101.out 0).trans rfl; have hfz17_0 := blk_frozen BK101.out 0) | ((with_reducible refine gate_callee (f := 41) rfl ?_); refine goesL_ (some 18) rfl rfl Try.func41 (by kernel_rfl) rfl #[.agg #[.slice A0_0 l0_0.length c0_0], .int .i64 1048576] rfl (by (try simp only [List.map_toArray, List.map_cons, List.map_nil]); first | done | rfl | (simp only [List.length_drop, List.length_take]; rfl)) ?_; (with_reducible refine (laws_szCode.calls k _ _ l0_0 1048576 t102 _ ?side1 ?side2 A6.out).mono ?_); (case side1 => repeat (first | exact (Kd.C_below HR0_0.out HB.out) | (with_reducible refine Kd.C_alloc ?_ _) | (with_reducible refine Kd.C_drewN ?_ _) | (with_reducible refine Kd.C_drew ?_))); (case side2 => exact HC0_0.out); rintro e w18 ⟨rfl, hb⟩; refine ⟨_, rfl, ?_⟩; have n0_ := Aside0.mk (blk_below (g := gb101) (o := .cells #[.slice A0_0 l0_0.length c0_0] 53 (0, 0)) (by (with_reducible repeat (first | refine blk_drewN ?_ _ | refine blk_drew ?_ | refine blk_alloc ?_ _)); exact BK101.out) hb); have n1_ := Aside0.mk (below_step (by repeat (first | (with_reducible first | exact HB.out | apply below_alloc | apply pw_below_drewN | apply below_drew1 | refine below_set ?_ GE101.out) | exact HB.out)) hb); clear BK101; clear HB; have BK101 := n0_; have HB := n1_; clear n0_ n1_; (try clear hb); (try clear hb2); (try clear hk); (try clear hi); have hcz19_0 : w18.cell? ⟨gb101, 0, none⟩ = some (.slice A0_0 l0_0.length c0_0) := (blk_cell BK101.out 0).trans rfl; have hfz19_0 := blk_frozen BK101.out 0) | ((with_reducible refine gate_callee (f := 43) rfl ?_); refine goesL_ (some 23) rfl rfl Try.func43 (by kernel_rfl) rfl #[.agg #[.slice A0_0 l0_0.length c0_0]] rfl (by (try simp only [List.map_toArray, List.map_cons, List.map_nil]); first | done | rfl | (simp only [List.length_drop, List.length_take]; rfl)) ?_; (with_reducible refine (laws_toCode.calls k _ _ l0_0 t103 _ ?side1 ?side2 A11.out).mono ?_); (case side1 => repeat (first | exact (Kd.C_below HR0_0.out HB.out) | (with_reducible refine Kd.C_alloc ?_ _) | (with_reducible refine Kd.C_drewN ?_ _) | (with_reducible refine Kd.C_drew ?_))); (case side2 => exact HC0_0.out); rintro e w20 ⟨v104, rfl, ho0, hb⟩; refine ⟨_, rfl, ?_⟩; have n0_ := Aside0.mk (Kd.S_lower ho0 (below_size (by repeat (first | (with_reducible first | exact HB.out | apply below_alloc | apply pw_below_drewN | apply below_drew1 | refine below_set ?_ GE101.out) | exact HB.out)))); have n1_ := Aside0.mk (blk_below (g := gb101) (o := .cells #[.slice A0_0 l0_0.length c0_0] 53 (0, 0)) (by (with_reducible repeat (first | refine blk_drewN ?_ _ | refine blk_drew ?_ | refine blk_alloc ?_ _)); exact BK101.out) hb); have n2_ := Aside0.mk (below_step (by repeat (first | (with_reducible first | exact HB.out | apply below_alloc | apply pw_below_drewN | apply below_drew1 | refine below_set ?_ GE101.out) | exact HB.out)) hb); clear BK101; clear HB; have HO105 := n0_; have BK101 := n1_; have HB := n2_; clear n0_ n1_ n2_; (try clear hb); (try clear hb2); (try clear hk); (try clear hi); (try clear ho0); obtain ⟨Ao21, co21, eo21⟩ := Kd.S_slice HO105.out; subst eo21) | ((with_reducible refine gate_callee (f := 49) rfl ?_); refine goesL_ (some 26) rfl rfl Try.func49 (by kernel_rfl) rfl #[.agg #[.slice Ao21 t103.length co21], .string a1, .int .i64 a2] rfl (by (try simp only [List.map_toArray, List.map_cons, List.map_nil]); first | done | rfl | (simp only [List.length_drop, List.length_take]; rfl)) ?_; (with_reducible refine (spec_RunCode.calls k _ _ t103 a1 a2 t106 t107 _ ?side1 ?side2 A12.out).mono ?_); (case side1 => repeat (first | exact (Kd.S_reads' HO105.out).2.2 | (with_reducible refine Kd.C_alloc ?_ _) | (with_reducible refine Kd.C_drewN ?_ _) | (with_reducible refine Kd.C_drew ?_))); (case side2 => exact (Kd.S_reads' HO105.out).2.1); rintro e w22 ⟨rfl, hb⟩; refine ⟨_, rfl, ?_⟩; have n0_ := Aside0.mk (Kd.S_below (by (with_reducible repeat (first | apply Kd.S_alloc | apply Kd.S_drewN | apply Kd.S_drew)); exact HO105.out) hb); have n1_ := Aside0.mk (blk_below (g := gb101) (o := .cells #[.slice A0_0 l0_0.length c0_0] 53 (0, 0)) (by (with_reducible repeat (first | refine blk_drewN ?_ _ | refine blk_drew ?_ | refine blk_alloc ?_ _)); exact BK101.out) hb); have n2_ := Aside0.mk (below_step (by repeat (first | (with_reducible first | exact HB.out | apply below_alloc | apply pw_below_drewN | apply below_drew1 | refine below_set ?_ GE101.out) | exact HB.out)) hb); clear HO105; clear BK101; clear HB; have HO105 := n0_; have BK101 := n1_; have HB := n2_; clear n0_ n1_ n2_; (try clear hb); (try clear hb2); (try clear hk); (try clear hi); have hcz23_0 : w22.cell? ⟨gb101, 0, none⟩ = some (.slice A0_0 l0_0.length c0_0) := (blk_cell BK101.out 0).trans rfl; have hfz23_0 := blk_frozen BK101.out 0) | ((with_reducible refine gate_callee (f := 43) rfl ?_); refine goesL_ (some 30) rfl rfl Try.func43 (by kernel_rfl) rfl #[.agg #[.slice A0_0 l0_0.length c0_0]] rfl (by (try simp only [List.map_toArray, List.map_cons, List.map_nil]); first | done | rfl | (simp only [List.length_drop, List.length_take]; rfl)) ?_; (with_reducible refine (laws_toCode.calls k _ _ l0_0 t108 _ ?side1 ?side2 A13.out).mono ?_); (case side1 => repeat (first | exact (Kd.C_below HR0_0.out HB.out) | (with_reducible refine Kd.C_alloc ?_ _) | (with_reducible refine Kd.C_drewN ?_ _) | (with_reducible refine Kd.C_drew ?_))); (case side2 => exact HC0_0.out); rintro e w24 ⟨v109, rfl, ho0, hb⟩; refine ⟨_, rfl, ?_⟩; have n0_ := Aside0.mk (Kd.S_elder' (by (with_reducible repeat (first | apply Kd.S_alloc | apply Kd.S_drewN | apply Kd.S_drew)); exact HO105.out) (Kd.S_base ho0) hb); have n1_ := Aside0.mk (Kd.S_lower (Kd.S_new' ho0 (Kd.S_lt (by (with_reducible repeat (first | apply Kd.S_alloc | apply Kd.S_drewN | apply Kd.S_drew)); exact HO105.out))) (below_size (by repeat (first | (with_reducible first | exact HB.out | apply below_alloc | apply pw_below_drewN | apply below_drew1 | refine below_set ?_ GE101.out) | exact HB.out)))); have n2_ := Aside0.mk (blk_below (g := gb101) (o := .cells #[.slice A0_0 l0_0.length c0_0] 53 (0, 0)) (by (with_reducible repeat (first | refine blk_drewN ?_ _ | refine blk_drew ?_ | refine blk_alloc ?_ _)); exact BK101.out) hb); have n3_ := Aside0.mk (below_step (by repeat (first | (with_reducible first | exact HB.out | apply below_alloc | apply pw_below_drewN | apply below_drew1 | refine below_set ?_ GE101.out) | exact HB.out)) hb); clear HO105; clear BK101; clear HB; have HO105 := n0_; have HO110 := n1_; have BK101 := n2_; have HB := n3_; clear n0_ n1_ n2_ n3_; (try clear hb); (try clear hb2); (try clear hk); (try clear hi); (try clear ho0)) | ((with_reducible refine gate_dst (N := 10) rfl ?_); refine box_event ?hg (N := 10) ?hd (cs := #[.slice none 0 0]) (t := 58) ?hr ?_; (case hd => rfl); (case hg => rfl); (case hr => first | (go_simp; done) | (go_simp; rfl)); intro gb111 hg w25 hbox hb; have n0_ := Aside0.mk (Kd.S_below (by (with_reducible repeat (first | apply Kd.S_alloc | apply Kd.S_drewN | apply Kd.S_drew)); exact HO105.out) hb); have n1_ := Aside0.mk (Kd.S_below (by (with_reducible repeat (first | apply Kd.S_alloc | apply Kd.S_drewN | apply Kd.S_drew)); exact HO110.out) hb); have n2_ := Aside0.mk (blk_below (g := gb101) (o := .cells #[.slice A0_0 l0_0.length c0_0] 53 (0, 0)) (by (with_reducible repeat (first | refine blk_drewN ?_ _ | refine blk_drew ?_ | refine blk_alloc ?_ _)); exact BK101.out) hb); have n3_ := Aside0.mk (below_step (by repeat (first | (with_reducible first | exact HB.out | apply below_alloc | apply pw_below_drewN | apply below_drew1 | refine below_set ?_ GE101.out) | exact HB.out)) hb); have n4_ := Aside0.mk (hbox); have n5_ := Aside0.mk ((by rw [hg]; exact (below_size (by repeat (first | (with_reducible first | exact HB.out | apply below_alloc | apply pw_below_drewN | apply below_drew1 | refine below_set ?_ GE101.out) | exact HB.out))) : w.heap.size ≤ gb111)); have n6_ := Aside0.mk ((by rw [hg]; exact (below_size (by repeat (first | (with_reducible first | exact HB.out | apply below_alloc | apply pw_below_drewN | apply below_drew1 | refine below_set ?_ GE101.out) | exact HB.out))) : w.heap.size ≤ gb111)); have n7_ := Aside0.mk ((by rw [hg]; exact Nat.ne_of_lt (blk_lt (g := gb101) (o := .cells #[.slice A0_0 l0_0.length c0_0] 53 (0, 0)) (by (with_reducible repeat (first | refine blk_drewN ?_ _ | refine blk_drew ?_ | refine blk_alloc ?_ _)); exact BK101.out)) : gb101 ≠ gb111)); have n8_ := Aside0.mk ((by rw [hg]; exact Nat.ne_of_gt (blk_lt (g := gb101) (o := .cells #[.slice A0_0 l0_0.length c0_0] 53 (0, 0)) (by (with_reducible repeat (first | refine blk_drewN ?_ _ | refine blk_drew ?_ | refine blk_alloc ?_ _)); exact BK101.out)) : gb111 ≠ gb101)); clear HO105; clear HO110; clear BK101; clear HB; have HO105 := n0_; have HO110 := n1_; have BK101 := n2_; have HB := n3_; have BK111 := n4_; have GW111 := n5_; have GE111 := n6_; have NB101_111 := n7_; have NB111_101 := n8_; clear n0_ n1_ n2_ n3_ n4_ n5_ n6_ n7_ n8_; clear hb hbox hg; obtain ⟨Ao26, co26, eo26⟩ := Kd.S_slice HO110.out; subst eo26; have hnb27 := NB111_101.out; have hnc27 := NB101_111.out; have hcz28_0 : w25.cell? ⟨gb111, 0, none⟩ = some (.slice none 0 0) := (blk_cell BK111.out 0).trans rfl; have hfz28_0 := blk_frozen BK111.out 0) | ((with_reducible refine gate_callee (f := 50) rfl ?_); refine goesL_ (some 35) rfl rfl Try.func50 (by kernel_rfl) rfl #[.agg #[.slice Ao26 t108.length co26], .string a1, .int .i64 a2] rfl (by (try simp only [List.map_toArray, List.map_cons, List.map_nil]); first | done | rfl | (simp only [List.length_drop, List.length_take]; rfl)) ?_; (with_reducible refine (impl_RunCode.calls k _ _ t108 a1 a2 t112 t113 _ ?side1 ?side2 A14.out).mono ?_); (case side1 => refine (Kd.S_reads' (e := 99) (base := w.heap.size) (ok := fun k_ => (True ∧ some k_ ≠ (.slice Ao21 t103.length co21 : Value).ownBlock)) (n := t108.length) (c := co26) ?_).2.2; exact (by (with_reducible repeat (first | apply Kd.S_alloc | apply Kd.S_drewN | apply Kd.S_drew)); exact (Kd.S_mono (Kd.S_far (p := ⟨gb111, 0, none⟩) (Kd.S_types HO110.out BK111.out (by decide)) (fun _ hk => hk.2) (.slice Ao26 t108.length co26)) (fun _ h_ => h_.1)))); (case side2 => exact (Kd.S_reads' HO110.out).2.1); rintro e w29 ⟨rfl, hb⟩; refine ⟨_, rfl, ?_⟩; have n0_ := Aside0.mk (Kd.S_below (by (with_reducible repeat (first | apply Kd.S_alloc | apply Kd.S_drewN | apply Kd.S_drew)); exact (Kd.S_mono (Kd.S_far (p := ⟨gb111, 0, none⟩) (Kd.S_types HO105.out BK111.out (by decide)) (fun _ hk => hk.2) (.slice Ao26 t108.length co26)) (fun _ h_ => h_.1))) hb); have n1_ := Aside0.mk (Kd.S_below (by (with_reducible repeat (first | apply Kd.S_alloc | apply Kd.S_drewN | apply Kd.S_drew)); exact (Kd.S_mono (Kd.S_far (p := ⟨gb111, 0, none⟩) (Kd.S_types HO110.out BK111.out (by decide)) (fun _ hk => hk.2) (.slice Ao26 t108.length co26)) (fun _ h_ => h_.1))) hb); have n2_ := Aside0.mk (blk_below (g := gb101) (o := .cells #[.slice A0_0 l0_0.length c0_0] 53 (0, 0)) (by (with_reducible repeat (first | refine blk_drewN ?_ _ | refine blk_drew ?_ | refine blk_alloc ?_ _)); refine blk_far ?_ NB101_111.out _; (with_reducible repeat (first | refine blk_drewN ?_ _ | refine blk_drew ?_ | refine blk_alloc ?_ _)); exact BK101.out) hb); have n3_ := Aside0.mk (blk_below (g := gb111) (o := .cells #[.slice Ao26 t108.length co26] 58 (0, 0)) (by (with_reducible repeat (first | refine blk_drewN ?_ _ | refine blk_drew ?_ | refine blk_alloc ?_ _)); refine blk_put (cs := #[.slice none 0 0]) ?_ 0 _ rfl; (with_reducible repeat (first | refine blk_drewN ?_ _ | refine blk_drew ?_ | refine blk_alloc ?_ _)); exact BK111.out) hb); have n4_ := Aside0.mk (below_step (by repeat (first | (with_reducible first | exact HB.out | apply below_alloc | apply pw_below_drewN | apply below_drew1 | refine below_set ?_ GE101.out | refine below_set ?_ GE111.out) | exact HB.out)) hb); clear HO105; clear HO110; clear BK101; clear BK111; clear HB; have HO105 := n0_; have HO110 := n1_; have BK101 := n2_; have BK111 := n3_; have HB := n4_; clear n0_ n1_ n2_ n3_ n4_; (try clear hb); (try clear hb2); (try clear hk); (try clear hi)))
   (try simp only [Act.put, List.setIfInBounds_toArray, List.set_cons_zero, List.set_cons_succ])
   go_cut [45] (fun v45 wc => ∃ (kq : Nat) (x45_14 : Bool), v45 = .bool x45_14 ∧ Aside0 (laws_FnExactRunCode.j0 kq x45_14 l0_0 t108 = some r) ∧ Aside0 (kq ≤ k) ∧ Aside0 (Kd.S k99 99 wc w.heap.size (fun _ => True) (.slice Ao26 t108.length co26) t108) ∧ Aside0 (wc.heap[gb101]? = some (.cells #[(.slice A0_0 l0_0.length c0_0)] 53 (0, 0))) ∧ Aside0 (wc.heap[gb111]? = some (.cells #[(.slice Ao26 t108.length co26)] 58 (0, 0))) ∧ Aside0 (Below w.heap.size w wc))
   case first =>
    have H := HC15.out
    clear HC15
    by_cases c30 : t112 = t106
    ·rw [if_pos c30] at H
     have c30b0 : (t112 == t106) = true := beq_iff_eq.mpr c30
     have c30b1 : (t112 != t106) = false := bne_eq_false_iff_eq.mpr c30
     clear c30
     (first | rw [c30b0] | (simp only [i64_w, i32_w]; rw [c30b0]) | skip)
     have H' := Aside0.mk H
     clear H
     go_wp2
     go_meet
     case rel => exact ⟨_, ((t113 != t107)), (by first | rfl | (simp; done) | (simp [*]; done)), H', ⟨by first | omega | exact Nat.le_refl _⟩, ⟨by (with_reducible repeat (first | apply Kd.S_alloc | apply Kd.S_drewN | apply Kd.S_drew)); exact Kd.S_mono HO110.out (fun _ hk => trivial)⟩, ⟨by (with_reducible repeat (first | refine blk_drewN ?_ _ | refine blk_drew ?_ | refine blk_alloc ?_ _)); exact BK101.out⟩, ⟨by (with_reducible repeat (first | refine blk_drewN ?_ _ | refine blk_drew ?_ | refine blk_alloc ?_ _)); exact BK111.out⟩, ⟨by repeat (first | (with_reducible first | exact HB.out | apply below_alloc | apply pw_below_drewN | apply below_drew1 | refine below_set ?_ GE101.out | refine below_set ?_ GE111.out) | exact HB.out)⟩⟩
    ·rw [if_neg c30] at H
     have c30b0 : (t112 == t106) = false := beq_eq_false_iff_ne.mpr c30
     have c30b1 : (t112 != t106) = true := bne_iff_ne.mpr c30
     (first | rw [c30b0] | (simp only [i64_w, i32_w]; rw [c30b0]) | skip)
     have H' := Aside0.mk H
     clear H
     go_wp2
     go_meet
     case rel => exact ⟨_, (true), (by first | rfl | (simp; done) | (simp [*]; done)), H', ⟨by first | omega | exact Nat.le_refl _⟩, ⟨by (with_reducible repeat (first | apply Kd.S_alloc | apply Kd.S_drewN | apply Kd.S_drew)); exact Kd.S_mono HO110.out (fun _ hk => trivial)⟩, ⟨by (with_reducible repeat (first | refine blk_drewN ?_ _ | refine blk_drew ?_ | refine blk_alloc ?_ _)); exact BK101.out⟩, ⟨by (with_reducible repeat (first | refine blk_drewN ?_ _ | refine blk_drew ?_ | refine blk_alloc ?_ _)); exact BK111.out⟩, ⟨by repeat (first | (with_reducible first | exact HB.out | apply below_alloc | apply pw_below_drewN | apply below_drew1 | refine below_set ?_ GE101.out | refine below_set ?_ GE111.out) | exact HB.out)⟩⟩
   case rest =>
    clear HC15
    try clear c1
    try clear c2
    try clear p2
    try clear c3
    try clear c4
    try clear c4b0
    try clear c4b1
    try clear c5
    try clear c7
    try clear c7b0
    try clear c11
    try clear c27
    try clear c30
    try clear c30b0
    try clear c30b1
    try clear hcz17_0
    try clear hcz19_0
    try clear hcz23_0
    try clear hcz28_0
    try clear hcz9_0
    try clear hfz17_0
    try clear hfz19_0
    try clear hfz23_0
    try clear hfz28_0
    try clear hfz9_0
    obtain ⟨kq, x45_14, rfl, HA, HJ14, HO_112000, BK101, BK111, HB⟩ := hcut
    cases kq with
    | zero => exact absurd HA.out (by simp [laws_FnExactRunCode.j0])
    | succ kj14 =>
     have H := HA.out
     clear HA
     simp only [laws_FnExactRunCode.j0] at H
     by_cases c31 : x45_14 = true
     ·subst c31
      have H1 : (some false) = some r := by rw [if_pos rfl] at H; exact H
      clear H
      have H := H1
      clear H1
      obtain rfl := Option.some.inj H
      go_wp2
      go_ret
      exact ⟨by first | rfl | (simp [errW_none, errW_some] <;> rfl) | (simp [*, errW_none, errW_some] <;> rfl), by repeat (first | (with_reducible first | exact HB.out | apply below_alloc | apply pw_below_drewN | apply below_drew1 | refine below_set ?_ GE101.out | refine below_set ?_ GE111.out) | exact HB.out)⟩
     ·replace c31 := Bool.eq_false_iff.mpr c31
      subst c31
      have H1 : ((laws_toCode.f kj14 l0_0).bind fun t114 => ((laws_eqCode.f kj14 t108 t114).bind fun t117 => (if t117 = true then (some true) else (some false)))) = some r := by rw [if_neg (show ¬ (false = true) by decide)] at H; exact H
      clear H
      have H := H1
      clear H1
      replace H := Option.bind_eq_some_iff.mp H
      obtain ⟨t114, A320, H⟩ := H
      replace H : ((laws_eqCode.f kj14 t108 t114).bind fun t117 => (if t117 = true then (some true) else (some false))) = some r := H
      have A32 := Aside0.mk A320
      clear A320
      replace H := Option.bind_eq_some_iff.mp H
      obtain ⟨t117, A330, H⟩ := H
      replace H : (if t117 = true then (some true) else (some false)) = some r := H
      have A33 := Aside0.mk A330
      clear A330
      by_cases c34 : t117 = true
      ·subst c34
       have H1 : (some true) = some r := by rw [if_pos rfl] at H; exact H
       clear H
       have H := H1
       clear H1
       obtain rfl := Option.some.inj H
       try go_wp2
       have n0_ := Aside0.mk (Kd.S_drew HO_112000.out)
       have n1_ := Aside0.mk (blk_drew BK101.out)
       have n2_ := Aside0.mk (blk_drew BK111.out)
       have n3_ := Aside0.mk (below_drew1 HB.out)
       clear HO_112000
       clear BK101
       clear BK111
       clear HB
       have HO_112000 := n0_
       have BK101 := n1_
       have BK111 := n2_
       have HB := n3_
       clear n0_ n1_ n2_ n3_
       refine start_ (n := 5) (S := fun w' => w'.cell? ⟨gb111, 0, none⟩ = some (.slice Ao26 t108.length co26) ∧ w'.cell? ⟨gb101, 0, none⟩ = some (.slice A0_0 l0_0.length c0_0)) (ds := []) #[false, false, false, false, false] (by kernel_rfl) rfl rfl ⟨(blk_cell BK111.out 0).trans rfl, (blk_cell BK101.out 0).trans rfl⟩ (fun hHeld => ?_)
       generalize wc.drew = w35 at HO_112000 BK101 BK111 HB hHeld ⊢
       refine take_ (i := 0) (N := some 46) (v := ?_) (a' := ?_) #[true, false, false, false, false] rfl rfl (by kernel_rfl) (fun _ _ _ h => h) (Or.inl ⟨by rfl, ?_⟩) hHeld ?_ ?_
       rotate_left
       ·rintro w' ⟨s0, s1⟩
        go_simp
        with_reducible rfl
       rotate_left
       ·simp only [Act.put, List.setIfInBounds_toArray, List.set_cons_zero, List.set_cons_succ, i64_w, i32_w]
        rfl
       refine take_ (i := 1) (N := some 47) (v := ?_) (a' := ?_) #[true, true, false, false, false] rfl rfl (by kernel_rfl) (fun _ _ _ h => h) (Or.inl ⟨by rfl, ?_⟩) hHeld ?_ ?_
       rotate_left
       ·rintro w' ⟨s0, s1⟩
        go_simp
        with_reducible rfl
       rotate_left
       ·simp only [Act.put, List.setIfInBounds_toArray, List.set_cons_zero, List.set_cons_succ, i64_w, i32_w]
        rfl
       refine one_ (i := 2) (N := some 48) #[true, true, true, false, false] rfl rfl (by kernel_rfl) (by decide) (fun K hK => ?_)
       refine goes_ Try.func43 (by kernel_rfl) rfl #[.agg #[.slice A0_0 l0_0.length c0_0]] (by rfl) rfl rfl (by (try simp only [List.map_toArray, List.map_cons, List.map_nil]); first | done | rfl | (simp only [List.length_drop, List.length_take]; rfl)) ?_
       with_reducible refine (laws_toCode.calls kj14 _ _ l0_0 t114 _ ?side1 ?side2 A32.out).mono ?_
       (case side1 => repeat (first | exact (Kd.C_below HR0_0.out HB.out) | (with_reducible refine Kd.C_alloc ?_ _) | (with_reducible refine Kd.C_drewN ?_ _) | (with_reducible refine Kd.C_drew ?_)))
       (case side2 => exact HC0_0.out)
       rintro e w36 ⟨v115, rfl, ho0, hb⟩
       refine ⟨_, rfl, ?_⟩
       have n0_ := Aside0.mk (Kd.S_elder' (by (with_reducible repeat (first | apply Kd.S_alloc | apply Kd.S_drewN | apply Kd.S_drew)); exact HO_112000.out) (Kd.S_base ho0) hb)
       have n1_ := Aside0.mk (Kd.S_lower (Kd.S_new' ho0 (Kd.S_lt (by (with_reducible repeat (first | apply Kd.S_alloc | apply Kd.S_drewN | apply Kd.S_drew)); exact HO_112000.out))) (below_size (by repeat (first | (with_reducible first | exact HB.out | apply below_alloc | apply pw_below_drewN | apply below_drew1 | refine below_set ?_ GE101.out | refine below_set ?_ GE111.out) | exact HB.out))))
       have n2_ := Aside0.mk (blk_below (g := gb101) (o := .cells #[.slice A0_0 l0_0.length c0_0] 53 (0, 0)) (by (with_reducible repeat (first | refine blk_drewN ?_ _ | refine blk_drew ?_ | refine blk_alloc ?_ _)); exact BK101.out) hb)
       have n3_ := Aside0.mk (blk_below (g := gb111) (o := .cells #[.slice Ao26 t108.length co26] 58 (0, 0)) (by (with_reducible repeat (first | refine blk_drewN ?_ _ | refine blk_drew ?_ | refine blk_alloc ?_ _)); exact BK111.out) hb)
       have n4_ := Aside0.mk (below_step (by repeat (first | (with_reducible first | exact HB.out | apply below_alloc | apply pw_below_drewN | apply below_drew1 | refine below_set ?_ GE101.out | refine below_set ?_ GE111.out) | exact HB.out)) hb)
       clear HO_112000
       clear BK101
       clear BK111
       clear HB
       have HO_112000 := n0_
       have HO116 := n1_
       have BK101 := n2_
       have BK111 := n3_
       have HB := n4_
       clear n0_ n1_ n2_ n3_ n4_
       (try clear hb)
       (try clear hb2)
       (try clear hk)
       (try clear hi)
       (try clear ho0)
       obtain ⟨Ao37, co37, eo37⟩ := Kd.S_slice HO116.out
       (first | subst eo37 | (injection eo37 with f1_ f2_ f3_; have f4_ := f1_.symm; have f5_ := f3_.symm; clear f1_ f2_ f3_; subst f4_; subst f5_))
       refine hK.out _ _ ⟨(blk_cell BK111.out 0).trans rfl, (blk_cell BK101.out 0).trans rfl⟩ (fun hHeld => ?_)
       clear hK K
       refine norm_ (a' := ?_) ?_ ?_
       rotate_left
       ·show Act.put _ (some 48) _ = _
        simp only [Act.put, List.setIfInBounds_toArray, List.set_cons_zero, List.set_cons_succ, i64_w, i32_w]
        rfl
       refine one_ (i := 3) (N := some 49) #[true, true, true, true, false] rfl rfl (by kernel_rfl) (by decide) (fun K hK => ?_)
       refine goes_ Try.func45 (by kernel_rfl) rfl #[.agg #[.slice Ao26 t108.length co26], .agg #[.slice Ao37 t114.length co37]] (by rfl) rfl rfl (by (try simp only [List.map_toArray, List.map_cons, List.map_nil]); first | done | rfl | (simp only [List.length_drop, List.length_take]; rfl)) ?_
       with_reducible refine (laws_eqCode.calls kj14 _ _ t108 _ _ t114 true _ ?side1 ?side2 ?side3 ?side4 A33.out).mono ?_
       (case side1 => repeat (first | exact (Kd.S_reads' HO_112000.out).2.2 | (with_reducible refine Kd.C_alloc ?_ _) | (with_reducible refine Kd.C_drewN ?_ _) | (with_reducible refine Kd.C_drew ?_)))
       (case side2 => exact (Kd.S_reads' HO_112000.out).2.1)
       (case side3 => repeat (first | exact (Kd.S_reads' HO116.out).2.2 | (with_reducible refine Kd.C_alloc ?_ _) | (with_reducible refine Kd.C_drewN ?_ _) | (with_reducible refine Kd.C_drew ?_)))
       (case side4 => exact (Kd.S_reads' HO116.out).2.1)
       rintro e w38 ⟨rfl, hb⟩
       refine ⟨_, rfl, ?_⟩
       have n0_ := Aside0.mk (Kd.S_below (by (with_reducible repeat (first | apply Kd.S_alloc | apply Kd.S_drewN | apply Kd.S_drew)); exact HO_112000.out) hb)
       have n1_ := Aside0.mk (Kd.S_below (by (with_reducible repeat (first | apply Kd.S_alloc | apply Kd.S_drewN | apply Kd.S_drew)); exact HO116.out) hb)
       have n2_ := Aside0.mk (blk_below (g := gb101) (o := .cells #[.slice A0_0 l0_0.length c0_0] 53 (0, 0)) (by (with_reducible repeat (first | refine blk_drewN ?_ _ | refine blk_drew ?_ | refine blk_alloc ?_ _)); exact BK101.out) hb)
       have n3_ := Aside0.mk (blk_below (g := gb111) (o := .cells #[.slice Ao26 t108.length co26] 58 (0, 0)) (by (with_reducible repeat (first | refine blk_drewN ?_ _ | refine blk_drew ?_ | refine blk_alloc ?_ _)); exact BK111.out) hb)
       have n4_ := Aside0.mk (below_step (by repeat (first | (with_reducible first | exact HB.out | apply below_alloc | apply pw_below_drewN | apply below_drew1 | refine below_set ?_ GE101.out | refine below_set ?_ GE111.out) | exact HB.out)) hb)
       clear HO_112000
       clear HO116
       clear BK101
       clear BK111
       clear HB
       have HO_112000 := n0_
       have HO116 := n1_
       have BK101 := n2_
       have BK111 := n3_
       have HB := n4_
       clear n0_ n1_ n2_ n3_ n4_
       (try clear hb)
       (try clear hb2)
       (try clear hk)
       (try clear hi)
       refine hK.out _ _ ⟨(blk_cell BK111.out 0).trans rfl, (blk_cell BK101.out 0).trans rfl⟩ (fun hHeld => ?_)
       clear hK K
       refine norm_ (a' := ?_) ?_ ?_
       rotate_left
       ·show Act.put _ (some 49) _ = _
        simp only [Act.put, List.setIfInBounds_toArray, List.set_cons_zero, List.set_cons_succ, i64_w, i32_w]
        rfl
       refine pure_ (i := 4) (N := some 50) (v := ?_) (a' := ?_) #[true, true, true, true, true] rfl rfl (by kernel_rfl) (fun _ _ _ h => h) (Or.inl ⟨by rfl, ?_⟩) ?_ ?_
       rotate_left
       ·intro w'
        go_simp
        with_reducible rfl
       rotate_left
       ·simp only [Act.put, List.setIfInBounds_toArray, List.set_cons_zero, List.set_cons_succ, i64_w, i32_w]
        rfl
       refine done_ (by kernel_rfl) ?_
       try go_wp2
       go_ret
       exact ⟨by first | rfl | (simp [errW_none, errW_some] <;> rfl) | (simp [*, errW_none, errW_some] <;> rfl), by repeat (first | (with_reducible first | exact HB.out | apply below_alloc | apply pw_below_drewN | apply below_drew1 | refine below_set ?_ GE101.out | refine below_set ?_ GE111.out) | exact HB.out)⟩
      ·replace c34 := Bool.eq_false_iff.mpr c34
       subst c34
       have H1 : (some false) = some r := by rw [if_neg (show ¬ (false = true) by decide)] at H; exact H
       clear H
       have H := H1
       clear H1
       obtain rfl := Option.some.inj H
       try go_wp2
       have n0_ := Aside0.mk (Kd.S_drew HO_112000.out)
       have n1_ := Aside0.mk (blk_drew BK101.out)
       have n2_ := Aside0.mk (blk_drew BK111.out)
       have n3_ := Aside0.mk (below_drew1 HB.out)
       clear HO_112000
       clear BK101
       clear BK111
       clear HB
       have HO_112000 := n0_
       have BK101 := n1_
       have BK111 := n2_
       have HB := n3_
       clear n0_ n1_ n2_ n3_
       refine start_ (n := 5) (S := fun w' => w'.cell? ⟨gb111, 0, none⟩ = some (.slice Ao26 t108.length co26) ∧ w'.cell? ⟨gb101, 0, none⟩ = some (.slice A0_0 l0_0.length c0_0)) (ds := []) #[false, false, false, false, false] (by kernel_rfl) rfl rfl ⟨(blk_cell BK111.out 0).trans rfl, (blk_cell BK101.out 0).trans rfl⟩ (fun hHeld => ?_)
       generalize wc.drew = w39 at HO_112000 BK101 BK111 HB hHeld ⊢
       refine take_ (i := 0) (N := some 46) (v := ?_) (a' := ?_) #[true, false, false, false, false] rfl rfl (by kernel_rfl) (fun _ _ _ h => h) (Or.inl ⟨by rfl, ?_⟩) hHeld ?_ ?_
       rotate_left
       ·rintro w' ⟨s0, s1⟩
        go_simp
        with_reducible rfl
       rotate_left
       ·simp only [Act.put, List.setIfInBounds_toArray, List.set_cons_zero, List.set_cons_succ, i64_w, i32_w]
        rfl
       refine take_ (i := 1) (N := some 47) (v := ?_) (a' := ?_) #[true, true, false, false, false] rfl rfl (by kernel_rfl) (fun _ _ _ h => h) (Or.inl ⟨by rfl, ?_⟩) hHeld ?_ ?_
       rotate_left
       ·rintro w' ⟨s0, s1⟩
        go_simp
        with_reducible rfl
       rotate_left
       ·simp only [Act.put, List.setIfInBounds_toArray, List.set_cons_zero, List.set_cons_succ, i64_w, i32_w]
        rfl
       refine one_ (i := 2) (N := some 48) #[true, true, true, false, false] rfl rfl (by kernel_rfl) (by decide) (fun K hK => ?_)
       refine goes_ Try.func43 (by kernel_rfl) rfl #[.agg #[.slice A0_0 l0_0.length c0_0]] (by rfl) rfl rfl (by (try simp only [List.map_toArray, List.map_cons, List.map_nil]); first | done | rfl | (simp only [List.length_drop, List.length_take]; rfl)) ?_
       with_reducible refine (laws_toCode.calls kj14 _ _ l0_0 t114 _ ?side1 ?side2 A32.out).mono ?_
       (case side1 => repeat (first | exact (Kd.C_below HR0_0.out HB.out) | (with_reducible refine Kd.C_alloc ?_ _) | (with_reducible refine Kd.C_drewN ?_ _) | (with_reducible refine Kd.C_drew ?_)))
       (case side2 => exact HC0_0.out)
       rintro e w40 ⟨v115, rfl, ho0, hb⟩
       refine ⟨_, rfl, ?_⟩
       have n0_ := Aside0.mk (Kd.S_elder' (by (with_reducible repeat (first | apply Kd.S_alloc | apply Kd.S_drewN | apply Kd.S_drew)); exact HO_112000.out) (Kd.S_base ho0) hb)
       have n1_ := Aside0.mk (Kd.S_lower (Kd.S_new' ho0 (Kd.S_lt (by (with_reducible repeat (first | apply Kd.S_alloc | apply Kd.S_drewN | apply Kd.S_drew)); exact HO_112000.out))) (below_size (by repeat (first | (with_reducible first | exact HB.out | apply below_alloc | apply pw_below_drewN | apply below_drew1 | refine below_set ?_ GE101.out | refine below_set ?_ GE111.out) | exact HB.out))))
       have n2_ := Aside0.mk (blk_below (g := gb101) (o := .cells #[.slice A0_0 l0_0.length c0_0] 53 (0, 0)) (by (with_reducible repeat (first | refine blk_drewN ?_ _ | refine blk_drew ?_ | refine blk_alloc ?_ _)); exact BK101.out) hb)
       have n3_ := Aside0.mk (blk_below (g := gb111) (o := .cells #[.slice Ao26 t108.length co26] 58 (0, 0)) (by (with_reducible repeat (first | refine blk_drewN ?_ _ | refine blk_drew ?_ | refine blk_alloc ?_ _)); exact BK111.out) hb)
       have n4_ := Aside0.mk (below_step (by repeat (first | (with_reducible first | exact HB.out | apply below_alloc | apply pw_below_drewN | apply below_drew1 | refine below_set ?_ GE101.out | refine below_set ?_ GE111.out) | exact HB.out)) hb)
       clear HO_112000
       clear BK101
       clear BK111
       clear HB
       have HO_112000 := n0_
       have HO116 := n1_
       have BK101 := n2_
       have BK111 := n3_
       have HB := n4_
       clear n0_ n1_ n2_ n3_ n4_
       (try clear hb)
       (try clear hb2)
       (try clear hk)
       (try clear hi)
       (try clear ho0)
       obtain ⟨Ao41, co41, eo41⟩ := Kd.S_slice HO116.out
       (first | subst eo41 | (injection eo41 with f1_ f2_ f3_; have f4_ := f1_.symm; have f5_ := f3_.symm; clear f1_ f2_ f3_; subst f4_; subst f5_))
       refine hK.out _ _ ⟨(blk_cell BK111.out 0).trans rfl, (blk_cell BK101.out 0).trans rfl⟩ (fun hHeld => ?_)
       clear hK K
       refine norm_ (a' := ?_) ?_ ?_
       rotate_left
       ·show Act.put _ (some 48) _ = _
        simp only [Act.put, List.setIfInBounds_toArray, List.set_cons_zero, List.set_cons_succ, i64_w, i32_w]
        rfl
       refine one_ (i := 3) (N := some 49) #[true, true, true, true, false] rfl rfl (by kernel_rfl) (by decide) (fun K hK => ?_)
       refine goes_ Try.func45 (by kernel_rfl) rfl #[.agg #[.slice Ao26 t108.length co26], .agg #[.slice Ao41 t114.length co41]] (by rfl) rfl rfl (by (try simp only [List.map_toArray, List.map_cons, List.map_nil]); first | done | rfl | (simp only [List.length_drop, List.length_take]; rfl)) ?_
       with_reducible refine (laws_eqCode.calls kj14 _ _ t108 _ _ t114 false _ ?side1 ?side2 ?side3 ?side4 A33.out).mono ?_
       (case side1 => repeat (first | exact (Kd.S_reads' HO_112000.out).2.2 | (with_reducible refine Kd.C_alloc ?_ _) | (with_reducible refine Kd.C_drewN ?_ _) | (with_reducible refine Kd.C_drew ?_)))
       (case side2 => exact (Kd.S_reads' HO_112000.out).2.1)
       (case side3 => repeat (first | exact (Kd.S_reads' HO116.out).2.2 | (with_reducible refine Kd.C_alloc ?_ _) | (with_reducible refine Kd.C_drewN ?_ _) | (with_reducible refine Kd.C_drew ?_)))
       (case side4 => exact (Kd.S_reads' HO116.out).2.1)
       rintro e w42 ⟨rfl, hb⟩
       refine ⟨_, rfl, ?_⟩
       have n0_ := Aside0.mk (Kd.S_below (by (with_reducible repeat (first | apply Kd.S_alloc | apply Kd.S_drewN | apply Kd.S_drew)); exact HO_112000.out) hb)
       have n1_ := Aside0.mk (Kd.S_below (by (with_reducible repeat (first | apply Kd.S_alloc | apply Kd.S_drewN | apply Kd.S_drew)); exact HO116.out) hb)
       have n2_ := Aside0.mk (blk_below (g := gb101) (o := .cells #[.slice A0_0 l0_0.length c0_0] 53 (0, 0)) (by (with_reducible repeat (first | refine blk_drewN ?_ _ | refine blk_drew ?_ | refine blk_alloc ?_ _)); exact BK101.out) hb)
       have n3_ := Aside0.mk (blk_below (g := gb111) (o := .cells #[.slice Ao26 t108.length co26] 58 (0, 0)) (by (with_reducible repeat (first | refine blk_drewN ?_ _ | refine blk_drew ?_ | refine blk_alloc ?_ _)); exact BK111.out) hb)
       have n4_ := Aside0.mk (below_step (by repeat (first | (with_reducible first | exact HB.out | apply below_alloc | apply pw_below_drewN | apply below_drew1 | refine below_set ?_ GE101.out | refine below_set ?_ GE111.out) | exact HB.out)) hb)
       clear HO_112000
       clear HO116
       clear BK101
       clear BK111
       clear HB
       have HO_112000 := n0_
       have HO116 := n1_
       have BK101 := n2_
       have BK111 := n3_
       have HB := n4_
       clear n0_ n1_ n2_ n3_ n4_
       (try clear hb)
       (try clear hb2)
       (try clear hk)
       (try clear hi)
       refine hK.out _ _ ⟨(blk_cell BK111.out 0).trans rfl, (blk_cell BK101.out 0).trans rfl⟩ (fun hHeld => ?_)
       clear hK K
       refine norm_ (a' := ?_) ?_ ?_
       rotate_left
       ·show Act.put _ (some 49) _ = _
        simp only [Act.put, List.setIfInBounds_toArray, List.set_cons_zero, List.set_cons_succ, i64_w, i32_w]
        rfl
       refine pure_ (i := 4) (N := some 50) (v := ?_) (a' := ?_) #[true, true, true, true, true] rfl rfl (by kernel_rfl) (fun _ _ _ h => h) (Or.inl ⟨by rfl, ?_⟩) ?_ ?_
       rotate_left
       ·intro w'
        go_simp
        with_reducible rfl
       rotate_left
       ·simp only [Act.put, List.setIfInBounds_toArray, List.set_cons_zero, List.set_cons_succ, i64_w, i32_w]
        rfl
       refine done_ (by kernel_rfl) ?_
       try go_wp2
       go_ret
       exact ⟨by first | rfl | (simp [errW_none, errW_some] <;> rfl) | (simp [*, errW_none, errW_some] <;> rfl), by repeat (first | (with_reducible first | exact HB.out | apply below_alloc | apply pw_below_drewN | apply below_drew1 | refine below_set ?_ GE101.out | refine below_set ?_ GE111.out) | exact HB.out)⟩

end Go.Proofs.Ytimdoghlnegpgaa.P
/- Arguments of plain data (nested slices and structs) read as the printed walks' kinds say, over any program whose types are as told. -/
namespace Go.Proofs.YtimdoghlnegpgaaOpen
open Go.RowKit Go.ChangeShapes Go.WideShapes Go.Proofs.YtimdoghlnegpgaaW.PrintWords
set_option linter.unusedVariables false
set_option linter.unusedSimpArgs false

structure Opens {α : Type} (P : Program) (t : TypeId) (k : Kd α) (G : α → Prop) : Prop where
  sz : P.cellsOf t = k.sz
  op : ∀ {H : Type} (enc : TypeId × Value → H) (w : World) (base : Nat) (spare : Nat → Bool) (held : Bool) (fuel : Nat) (cs : List Value) (x : DataW H × List MemPlace), DataW.trod enc P w base spare held fuel t cs = some x → ∃ v, k.K w v cs ∧ G v

variable {P : Program} {t e : TypeId}

theorem opens_int {k : IntKind} (ht : P.underlying t = some (.int k)) (hc : P.cellsOf t = 1) : Opens P t (Kd.int k) (fun n => (Lit.int k n).wf = true) where
  sz := hc
  op := fun enc w base spare held fuel cs x h => by
    obtain ⟨n, rfl, _, hw⟩ := DataW.trod_int ht h
    exact ⟨n, rfl, hw⟩
theorem opens_bool (ht : P.underlying t = some .bool) (hc : P.cellsOf t = 1) : Opens P t Kd.bool (fun _ => True) where
  sz := hc
  op := fun enc w base spare held fuel cs x h => by
    obtain ⟨b, rfl, _⟩ := DataW.trod_bool ht h
    exact ⟨b, rfl, trivial⟩
theorem opens_string (ht : P.underlying t = some .string) (hc : P.cellsOf t = 1) : Opens P t Kd.string (fun s => s.size ≤ maxLen) where
  sz := hc
  op := fun enc w base spare held fuel cs x h => by
    obtain ⟨s, rfl, _, hs⟩ := DataW.trod_string ht h
    exact ⟨s, rfl, hs⟩

theorem exists_list {α : Type} {p : Nat → α → Prop} : ∀ n, (∀ i, i < n → ∃ v, p i v) → ∃ xs : List α, xs.length = n ∧ ∀ i v, xs[i]? = some v → p i v
  | 0, _ => ⟨[], rfl, fun i v h => by simp at h⟩
  | n + 1, h => by
    obtain ⟨xs, hl, hx⟩ := exists_list n (fun i hi => h i (by omega))
    obtain ⟨v, hv⟩ := h n (by omega)
    refine ⟨xs ++ [v], by simp [hl], fun i u hu => ?_⟩
    by_cases hi : i < n
    · rw [List.getElem?_append_left (by omega)] at hu
      exact hx i u hu
    · rw [List.getElem?_append_right (by omega)] at hu
      have : i - xs.length = 0 := by
        have := (List.getElem?_eq_some_iff.1 hu).1
        simp at this
        omega
      rw [this] at hu
      have hi' : i = n := by omega
      subst hi'
      simp at hu
      subst hu
      exact hv

theorem opens_slice {α : Type} {k : Kd α} {G : α → Prop} (ht : P.underlying t = some (.slice e)) (hc : P.cellsOf t = 1) (h : Opens P e k G) : Opens P t (Kd.slice e k) (fun xs => xs.length ≤ maxLen ∧ ∀ x ∈ xs, G x) where
  sz := hc
  op := fun enc w base spare held fuel cs x hx => by
    rcases DataW.trod_slice ht hx with ⟨rfl, rfl⟩ | ⟨a, len, cap, elems, rest, n, _, rfl, _, _, hl, hm, hlen, hel, _, _⟩
    · exact ⟨[], ⟨none, 0, rfl, Nat.le_refl _, Kd.C_nil k w⟩, by simp, fun x hx => absurd hx List.not_mem_nil⟩
    · have each : ∀ i, i < len → ∃ v, G v ∧ ∃ c, c.length = k.sz ∧ k.K w v c ∧ ∀ j u, c[j]? = some u → w.cell? (a.add (i * k.sz + j)) = some u := by
        intro i hi
        have h1 := hel i hi
        rw [List.getElem?_eq_getElem (by omega), Option.bind_eq_some_iff, h.sz] at h1
        obtain ⟨c, hc1, hc2⟩ := h1
        obtain ⟨v, hv, hg⟩ := h.op enc w base spare held n c _ hc2
        obtain ⟨_, hcl, hcell⟩ := World.cells?_some hc1
        refine ⟨v, hg, c, hcl, hv, fun j u hu => ?_⟩
        have hj : j < k.sz := by
          have := (List.getElem?_eq_some_iff.1 hu).1
          omega
        rw [← Addr.add_add, hcell j hj]
        exact hu
      obtain ⟨xs, hxl, hx⟩ := exists_list len each
      have hmx : (maxLen : Nat) ≤ 9223372036854775807 := by unfold maxLen; omega
      refine ⟨xs, ⟨some a, cap, by rw [hxl], by omega, ?_⟩, by omega, fun x hx' => ?_⟩
      · refine ⟨rfl, by omega, fun _ => ⟨a, rfl, fun j p hp => ?_⟩⟩
        obtain ⟨_, c, h1, h2, h3⟩ := hx j p hp
        exact ⟨c, h1, h2, h3⟩
      · obtain ⟨i, hi⟩ := List.mem_iff_getElem?.1 hx'
        exact (hx i x hi).1

/-- A struct's fields from a cell on. -/
structure Fields {α : Type} (P : Program) (fs : List Field) (off : Nat) (k : Kd α) (G : α → Prop) : Prop where
  from_ : ∀ f ∈ fs, off ≤ f.offset
  op : ∀ {H : Type} (enc : TypeId × Value → H) (w : World) (base : Nat) (spare : Nat → Bool) (held : Bool) (n : Nat) (cs : List Value), cs.length = k.sz → (∀ f ∈ fs, ∃ y, DataW.trod enc P w base spare held n f.type ((cs.drop (f.offset - off)).take (P.cellsOf f.type)) = some y) → ∃ v, k.K w v cs ∧ G v

theorem fields_one {α : Type} {k : Kd α} {G : α → Prop} {f : Field} (h : Opens P f.type k G) : Fields P [f] f.offset k G where
  from_ := fun g hg => by rw [List.mem_singleton.1 hg]; exact Nat.le_refl _
  op := fun enc w base spare held n cs hl hf => by
    obtain ⟨y, hy⟩ := hf f (by simp)
    rw [Nat.sub_self, List.drop_zero, h.sz, ← hl, List.take_length] at hy
    exact h.op enc w base spare held n cs y hy
theorem fields_cons {α β : Type} {k : Kd α} {k' : Kd β} {G : α → Prop} {G' : β → Prop} {f : Field} {fs : List Field} (h : Opens P f.type k G) (hs : Fields P fs (f.offset + k.sz) k' G') : Fields P (f :: fs) f.offset (Kd.pair k k') (fun x => G x.1 ∧ G' x.2) where
  from_ := fun g hg => by
    rcases List.mem_cons.1 hg with rfl | hg
    · exact Nat.le_refl _
    · have := hs.from_ g hg
      omega
  op := fun enc w base spare held n cs hl hf => by
    have hl' : cs.length = k.sz + k'.sz := hl
    obtain ⟨y, hy⟩ := hf f (by simp)
    rw [Nat.sub_self, List.drop_zero, h.sz] at hy
    obtain ⟨v, hv, hg⟩ := h.op enc w base spare held n _ y hy
    obtain ⟨u, hu, hg'⟩ := hs.op enc w base spare held n (cs.drop k.sz) (by rw [List.length_drop]; omega) (fun g hg => by
      obtain ⟨y, hy⟩ := hf g (by simp [hg])
      refine ⟨y, ?_⟩
      have := hs.from_ g hg
      rw [List.drop_drop, show k.sz + (g.offset - (f.offset + k.sz)) = g.offset - f.offset by omega]
      exact hy)
    exact ⟨(v, u), ⟨cs.take k.sz, cs.drop k.sz, (List.take_append_drop _ _).symm, hv, hu⟩, hg, hg'⟩
theorem opens_struct {α : Type} {k : Kd α} {G : α → Prop} {fs : Array Field} (ht : P.underlying t = some (.struct fs)) (hc : P.cellsOf t = k.sz) (h : Fields P fs.toList 0 k G) : Opens P t k G where
  sz := hc
  op := fun enc w base spare held fuel cs x hx => by
    obtain ⟨xs, n, _, _, hl, hlen, hf⟩ := DataW.trod_struct ht hx
    refine h.op enc w base spare held n cs (hl.trans hc) (fun f hf' => ?_)
    obtain ⟨i, hi⟩ := List.mem_iff_getElem?.1 hf'
    rw [Array.getElem?_toList] at hi
    have h1 := hf i f hi
    have : i < fs.size := by
      have := (Array.getElem?_eq_some_iff.1 hi).1
      exact this
    rw [List.getElem?_eq_getElem (by omega)] at h1
    rw [Nat.sub_zero]
    exact ⟨_, h1⟩
theorem opens_iso {α β : Type} {k : Kd α} {G : α → Prop} (f : β → α) (g : α → β) (hfg : ∀ x, f (g x) = x) (h : Opens P t k G) : Opens P t (Kd.iso k f) (fun y => G (f y)) where
  sz := h.sz
  op := fun enc w base spare held fuel cs x hx => by
    obtain ⟨v, hv, hg⟩ := h.op enc w base spare held fuel cs x hx
    exact ⟨g v, by show k.K w (f (g v)) cs; rw [hfg]; exact hv, by rw [hfg]; exact hg⟩
theorem opens_imp {α : Type} {k : Kd α} {G G' : α → Prop} (h : Opens P t k G) (hg : ∀ x, G x → G' x) : Opens P t k G' where
  sz := h.sz
  op := fun enc w base spare held fuel cs x hx => by
    obtain ⟨v, hv, hh⟩ := h.op enc w base spare held fuel cs x hx
    exact ⟨v, hv, hg v hh⟩
end Go.Proofs.YtimdoghlnegpgaaOpen
/- What the reference's CodeOk answers: just what the program's does. -/
namespace Go.Proofs.Ytimdoghlnegpgaa.P
open Go.RowKit Go.Proofs.YtimdoghlnegpgaaW.PrintWords Go.Proofs.YtimdoghlnegpgaaW.PrintLast Go.Proofs.YtimdoghlnegpgaaEv
set_option linter.unusedVariables false
set_option linter.unusedSimpArgs false

/-- Arms that rise from above a number on are few. -/
theorem armsR_few (many : Int) : ∀ (l : List S117) (last : Int), -1 ≤ last → armsR many last l = true → (l.length : Int) ≤ 255 - last ∨ l = [] := by
  intro l
  induction l with
  | nil => intro last _ _; exact .inr rfl
  | cons a l ih =>
    intro last h0 h
    simp only [armsR, Bool.and_eq_true, decide_eq_true_eq] at h
    left
    rcases ih a.f1 (by omega) h.2 with h1 | h1
    · simp only [List.length_cons]
      omega
    · subst h1
      simp
      omega
theorem armsB_few {many : Int} {l : List S117} (h : armsB many l = true) : l.length ≤ 256 := by
  rcases armsR_few many l (-1) (by omega) h with h1 | h1
  · omega
  · simp [h1]
theorem spec_l18Arms_ev (b : S99) (many : Int) (h0 : 1 ≤ many) (h1 : many ≤ 1000) : Ev (fun k => spec_l18Arms.f k b.f0 b.f1 b.f2 many) (blockB many b) := by
  unfold spec_l18Arms.f blockB
  simp only [ev_ite]
  by_cases h6 : b.f1.length ≤ 256
  · rw [if_neg (by omega)]
    have hw : wrap64 (many - 1) = many - 1 := wrap_id (by omega) (by omega)
    obtain ⟨f0, l, f2⟩ := b
    simp only at h6 ⊢
    have key := down l.length (fun i => ∀ last : Int, (i = 0 → last = -1) → (0 < i → last = (rd_T117 l ((i - 1 : Nat) : Int)).f1) → Ev (fun k => spec_l18Arms.l0 k many (i : Nat) f0 l f2) (decide (-1 ≤ f0 ∧ f0 ≤ 39) && decide (0 ≤ f2 ∧ f2 ≤ many - 1) && armsR many last (l.drop i))) ?_ ?_ 0 (by omega) (-1) (fun _ => rfl) (by omega)
    · exact key
    · intro last _ _
      rw [ev_succ]
      simp only [spec_l18Arms.l0, ev_ite, spec_l1In_eq, Option.bind_some, ev_some, hw]
      rw [if_neg (by omega), List.drop_length]
      simp only [armsR, Bool.and_true]
      split <;> simp_all <;> (intros; omega)
    · intro i hi ih last hl0 hl1
      rw [ev_succ, drop_cons l z117 i hi]
      have hr : l.getD i z117 = rd_T117 l i := by simp [rd_T117]
      rw [hr]
      have ih2 := ih (rd_T117 l i).f1 (by omega) (fun _ => by rw [Nat.add_sub_cancel])
      simp only [spec_l18Arms.l0, spec_l1In_eq, Option.bind_some, ev_ite, ev_some, armsR, hw]
      rw [if_pos (by omega), if_pos (by omega), wrap_succ hi (by omega)]
      have hprev : 0 < i → (0 ≤ wrap64 ((i : Int) - 1) ∧ wrap64 ((i : Int) - 1) < l.length ∧ (rd_T117 l (wrap64 ((i : Int) - 1))).f1 = last) := by
        intro hp
        rw [wrap_id (x := (i : Int) - 1) (by omega) (by omega)]
        exact ⟨by omega, by omega, by rw [hl1 hp, show ((i : Int) - 1) = ((i - 1 : Nat) : Int) by omega]⟩
      generalize (l.drop (i + 1)) = T at *
      generalize rd_T117 l (i : Int) = a at *
      generalize hG : (fun k => spec_l18Arms.l0 k many ((i + 1 : Nat) : Int) f0 l f2) = G at *
      generalize (decide (-1 ≤ f0 ∧ f0 ≤ 39) && decide (0 ≤ f2 ∧ f2 ≤ many - 1)) = D at *
      by_cases c1 : 0 ≤ a.f0 ∧ a.f0 ≤ a.f1
      · rw [if_pos (by simpa using c1)]
        by_cases c3 : a.f1 > 255
        · rw [if_pos c3]; simp [show ¬ a.f1 ≤ 255 by omega]
        rw [if_neg c3]
        by_cases c4 : 0 ≤ a.f2 ∧ a.f2 ≤ many - 1
        · rw [if_pos (by simpa using c4)]
          have hend : (last < a.f0) → Ev G (D && (decide (0 ≤ a.f0) && decide (a.f0 ≤ a.f1) && decide (a.f1 ≤ 255) && decide (last < a.f0) && decide (0 ≤ a.f2 ∧ a.f2 ≤ many - 1) && armsR many a.f1 T)) := by
            intro h5
            refine ev_congr ih2 ?_
            simp [c4, c1, show a.f1 ≤ 255 by omega, h5]
          by_cases h00 : i = 0
          · rw [if_neg (by omega)]
            exact hend (by have := hl0 h00; omega)
          · obtain ⟨h1', h2', h3'⟩ := hprev (by omega)
            rw [if_pos (by omega), if_pos h1', if_pos h2', h3']
            by_cases c5 : a.f0 ≤ last
            · rw [if_pos c5]; simp [show ¬ last < a.f0 by omega]
            · rw [if_neg c5]
              exact hend (by omega)
        · rw [if_neg (by simpa using c4)]
          simp [c4]
      · rw [if_neg (by simpa using c1)]
        by_cases c2 : 0 ≤ a.f0
        · simp [c2, show ¬ a.f0 ≤ a.f1 by omega]
        · simp [c2]
  · rw [if_pos (by omega)]
    refine ev_some.2 ?_
    cases h : armsB many b.f1
    · simp
    · exact absurd (armsB_few h) h6
theorem spec_CodeOk_ev (l : List S99) (hl : l.length ≤ 1048576) : Ev (fun k => spec_CodeOk.f k l) (codeB l) := by
  have hloop : 1 ≤ l.length → l.length ≤ 1000 → Ev (fun k => spec_CodeOk.l0 k l.length 0 l) (l.all (blockB l.length)) := by
    intro h1 h2
    have key := ev_loop l.length (fun k i => spec_CodeOk.l0 k l.length (i : Nat) l) (fun i => (l.drop i).all (blockB l.length)) ?_ ?_ 0 (by omega)
    · simpa using key
    · rw [ev_succ]
      simp [spec_CodeOk.l0, ev_some]
    · intro i hi ih
      rw [ev_succ]
      simp only [spec_CodeOk.l0, ev_ite]
      rw [if_pos (by omega), if_pos (by omega), if_pos (by omega), ev_bind (spec_l18Arms_ev (rd_T99 l i) l.length (by omega) (by omega)), wrap_succ hi (by omega), all_drop l z99 _ i hi]
      simp only [ev_ite, ev_some]
      have : l.getD i z99 = rd_T99 l i := by simp [rd_T99]
      rw [this]
      cases h : blockB l.length (rd_T99 l i)
      · simp
      · simpa using ih
  have hj : ∀ b, (b = false → 1 ≤ l.length ∧ l.length ≤ 1000) → Ev (fun k => spec_CodeOk.j0 k l.length b l) (!b && l.all (blockB l.length)) := by
    intro b h6
    rw [ev_succ]
    simp only [spec_CodeOk.j0, ev_ite, ev_some]
    cases b
    · have := hloop (h6 rfl).1 (h6 rfl).2
      simpa using this
    · simp
  unfold spec_CodeOk.f codeB
  simp only [ev_ite]
  by_cases h1 : 1 ≤ l.length
  · rw [if_neg (by omega)]
    by_cases h2 : l.length ≤ 1000
    · rw [decide_eq_false (show ¬ (l.length : Int) > 1000 by omega)]
      exact ev_congr (hj _ (fun _ => ⟨h1, h2⟩)) (by simp [h1, h2])
    · rw [decide_eq_true (show (l.length : Int) > 1000 by omega)]
      exact ev_congr (hj _ (by simp)) (by simp [h2])
  · rw [if_pos (by omega)]
    exact ev_congr (hj _ (by simp)) (by simp [h1])
end Go.Proofs.Ytimdoghlnegpgaa.P
/- What the printed RunCode of program and reference answer. -/
namespace Go.Proofs.Ytimdoghlnegpgaa.P
open Go.RowKit Go.Proofs.YtimdoghlnegpgaaW.PrintWords Go.Proofs.YtimdoghlnegpgaaW.PrintLast Go.Proofs.YtimdoghlnegpgaaEv
set_option linter.unusedVariables false
set_option linter.unusedSimpArgs false

/-- Where a block leads by a byte. -/
def toR (x e : Int) : List S117 → Int
  | [] => e
  | a :: rest => if a.f0 ≤ x ∧ x ≤ a.f1 then a.f2 else toR x e rest
theorem armsR_to {many : Int} {x e : Int} (he : 0 ≤ e ∧ e ≤ many - 1) : ∀ (l : List S117) (last : Int), armsR many last l = true → 0 ≤ toR x e l ∧ toR x e l ≤ many - 1 := by
  intro l
  induction l with
  | nil => intro last _; exact he
  | cons a l ih =>
    intro last h
    simp only [armsR, Bool.and_eq_true, decide_eq_true_eq] at h
    unfold toR
    split
    · exact h.1.2
    · exact ih _ h.2
theorem code_block {l : List S99} (h : codeB l = true) {n : Int} (h0 : 0 ≤ n) (hn : n < l.length) : blockB l.length (rd_T99 l n) = true := by
  simp only [codeB, Bool.and_eq_true, List.all_eq_true] at h
  refine h.2 _ ?_
  unfold rd_T99
  rw [List.getD_eq_getElem?_getD, List.getElem?_eq_getElem (by omega)]
  exact List.getElem_mem _
theorem block_to {many : Int} {b : S99} (h : blockB many b = true) (x : Int) : 0 ≤ toR x b.f2 b.f1 ∧ toR x b.f2 b.f1 < many := by
  simp only [blockB, Bool.and_eq_true, decide_eq_true_eq] at h
  have := armsR_to (x := x) h.1.2 b.f1 (-1) h.2
  omega
theorem spec_l18Next_ev (f0 : Int) (l : List S117) (f2 x : Int) (hl : l.length ≤ 9223372036854775807) : Ev (fun k => spec_l18Next.f k f0 l f2 x) (toR x f2 l) := by
  unfold spec_l18Next.f
  have key := ev_loop l.length (fun k i => spec_l18Next.l0 k x (i : Nat) f0 l f2) (fun i => toR x f2 (l.drop i)) ?_ ?_ 0 (by omega)
  · exact key
  · rw [ev_succ]
    simp [spec_l18Next.l0, ev_some, toR]
  · intro i hi ih
    rw [ev_succ, drop_cons l z117 i hi]
    have hr : l.getD i z117 = rd_T117 l i := by simp [rd_T117]
    rw [hr]
    simp only [spec_l18Next.l0, spec_l1In_eq, Option.bind_some, ev_ite, ev_some, toR]
    rw [if_pos (by omega), if_pos (by omega), wrap_succ hi (by omega)]
    simp only [decide_eq_true_eq]
    split
    · rfl
    · exact ih
theorem impl_to_ev (f0 : Int) (l : List S117) (f2 x : Int) (hx : 0 ≤ x ∧ x ≤ 255) (hl : l.length ≤ 9223372036854775807) : Ev (fun k => impl_CBlock_to.f k f0 l f2 x) (toR x f2 l) := by
  unfold impl_CBlock_to.f
  have key := ev_loop l.length (fun k i => impl_CBlock_to.l0 k x l l.length (i : Nat) f0 l f2) (fun i => toR x f2 (l.drop i)) ?_ ?_ 0 (by omega)
  · exact key
  · rw [ev_succ]
    simp [impl_CBlock_to.l0, ev_some, toR]
  · intro i hi ih
    rw [ev_succ, drop_cons l z117 i hi]
    have hr : l.getD i z117 = rd_T117 l i := by simp [rd_T117]
    rw [hr]
    simp only [impl_CBlock_to.l0, impl_within_eq, Option.bind_some, ev_ite, ev_some, toR]
    rw [if_pos (by omega), if_pos (by omega), if_pos (by omega), wrap_succ hi (by omega), wrap_id (x := x) (by omega) (by omega)]
    simp only [decide_eq_true_eq]
    split
    · rfl
    · exact ih

/-- The run of code with d bytes left. -/
def codeR (l : List S99) (text : ByteArray) : Nat → Int → Int → Int → Int → Int × Int
  | 0, e, r, _, _ => (e, r)
  | d + 1, e, r, b, i =>
    let t := toR (bt text i) (rd_T99 l b).f2 (rd_T99 l b).f1
    if (rd_T99 l t).f0 ≥ 0 then codeR l text d (i + 1) (rd_T99 l t).f0 t (i + 1) else codeR l text d e r t (i + 1)
def runCodeB (l : List S99) (text : ByteArray) (at_ : Int) : Int × Int :=
  if codeB l = true ∧ (text.size : Int) ≤ 20000 ∧ 0 ≤ at_ ∧ at_ ≤ text.size then codeR l text (text.size - at_).toNat (-1) (-1) 0 at_ else (-1, -1)
theorem armsR_len {many : Int} {b : S99} (h : blockB many b = true) : b.f1.length ≤ 9223372036854775807 := by
  simp only [blockB, Bool.and_eq_true, decide_eq_true_eq] at h
  have := armsB_few h.2
  omega
theorem impl_RunCode_ev (l : List S99) (text : ByteArray) (ht : text.size ≤ 1048576) (at_ : Int) : Ev (fun k => impl_RunCode.f k l text at_) (runCodeB l text at_) := by
  have hbad : Ev (fun k => impl_RunCode.j0 k text at_ true l) (-1, -1) := by
    rw [ev_succ]
    simp [impl_RunCode.j0, ev_some]
  unfold impl_RunCode.f runCodeB
  simp only [impl_length.f, impl_within_eq, impl_CodeOk.f, Option.bind_some, ev_ite]
  by_cases c1 : (text.size : Int) > 20000
  · rw [if_pos c1, if_neg (by omega)]
    exact hbad
  · rw [if_neg c1]
    by_cases c2 : 0 ≤ at_ ∧ at_ ≤ text.size
    · rw [if_pos (by simpa using c2)]
      cases c4 : codeB l
      · simpa using hbad
      · rw [if_pos ⟨rfl, by omega, c2.1, c2.2⟩]
        rw [ev_succ]
        simp only [impl_RunCode.j0, Bool.not_true, Bool.false_eq_true, if_false]
        have hlen : 1 ≤ l.length := by simp only [codeB, Bool.and_eq_true, decide_eq_true_eq] at c4; omega
        obtain ⟨a, rfl⟩ := Int.eq_ofNat_of_zero_le c2.1
        have key := down text.size (fun i => ∀ e r b : Int, 0 ≤ b → b < l.length → Ev (fun k => impl_RunCode.l0 k text e r b (i : Nat) l) (codeR l text (text.size - i) e r b (i : Nat))) ?_ ?_ a (by omega) (-1) (-1) 0 (by omega) (by omega)
        · rw [show ((text.size : Int) - (a : Int)).toNat = text.size - a by omega]
          exact key
        · intro e r b _ _
          rw [ev_succ, Nat.sub_self]
          simp only [impl_RunCode.l0, impl_length.f, Option.bind_some, ev_ite, codeR]
          rw [if_neg (by omega)]
          exact ev_some.2 rfl
        · intro i hi ih e r b hb0 hb1
          have hblk := code_block c4 hb0 hb1
          have hbt := bt_range text i
          have hto := block_to hblk (bt text i)
          rw [ev_succ, show text.size - i = (text.size - (i + 1)) + 1 by omega]
          simp only [impl_RunCode.l0, impl_length.f, Option.bind_some, ev_ite, codeR]
          rw [if_pos (by omega), if_pos hb0, if_pos hb1, if_pos (by omega), if_pos (by omega), ev_bind (impl_to_ev _ _ _ _ hbt (armsR_len hblk)), ev_ite, if_pos hto.1, ev_ite, if_pos hto.2, ev_ite, wrap_succ hi (by omega)]
          split
          · have := ih (((i + 1 : Nat) : Int)) (rd_T99 l (toR (bt text i) (rd_T99 l b).f2 (rd_T99 l b).f1)).f0 _ hto.1 hto.2
            simpa using this
          · have := ih e r _ hto.1 hto.2
            simpa using this
    · rw [if_neg (by simpa using c2), if_neg (fun h => c2 ⟨h.2.2.1, h.2.2.2⟩)]
      exact hbad
theorem spec_RunCode_ev (l : List S99) (hl : l.length ≤ 1048576) (text : ByteArray) (ht : text.size ≤ 1048576) (at_ : Int) : Ev (fun k => spec_RunCode.f k l text at_) (runCodeB l text at_) := by
  have hbad : Ev (fun k => spec_RunCode.j0 k text at_ true l) (-1, -1) := by
    rw [ev_succ]
    simp [spec_RunCode.j0, ev_some]
  unfold spec_RunCode.f runCodeB
  rw [ev_bind (spec_CodeOk_ev l hl)]
  simp only [spec_l1In_eq, Option.bind_some, ev_ite]
  cases c4 : codeB l
  · simpa using hbad
  rw [if_pos rfl]
  by_cases c1 : (text.size : Int) > 20000
  · rw [if_pos c1, if_neg (by omega)]
    exact hbad
  · rw [if_neg c1]
    by_cases c2 : 0 ≤ at_ ∧ at_ ≤ text.size
    · rw [if_pos ⟨rfl, by omega, c2.1, c2.2⟩, decide_eq_true c2, ev_succ]
      simp only [spec_RunCode.j0, Bool.not_true, Bool.false_eq_true, if_false]
      have hlen : 1 ≤ l.length := by simp only [codeB, Bool.and_eq_true, decide_eq_true_eq] at c4; omega
      obtain ⟨a, rfl⟩ := Int.eq_ofNat_of_zero_le c2.1
      have key := down text.size (fun i => ∀ e r b : Int, 0 ≤ b → b < l.length → Ev (fun k => spec_RunCode.l0 k text b e r (i : Nat) l) (codeR l text (text.size - i) e r b (i : Nat))) ?_ ?_ a (by omega) (-1) (-1) 0 (by omega) (by omega)
      · rw [show ((text.size : Int) - (a : Int)).toNat = text.size - a by omega]
        exact key
      · intro e r b _ _
        rw [ev_succ, Nat.sub_self]
        simp only [spec_RunCode.l0, ev_ite, codeR]
        rw [if_neg (by omega)]
        exact ev_some.2 rfl
      · intro i hi ih e r b hb0 hb1
        have hblk := code_block c4 hb0 hb1
        have hbt := bt_range text i
        have hto := block_to hblk (bt text i)
        rw [ev_succ, show text.size - i = (text.size - (i + 1)) + 1 by omega]
        simp only [spec_RunCode.l0, Option.bind_some, ev_ite, codeR]
        rw [if_pos (by omega), if_pos hb0, if_pos hb1, if_pos (by omega), wrap_id (x := bt text i) (by omega) (by omega), ev_bind (spec_l18Next_ev _ _ _ _ (armsR_len hblk)), ev_ite, if_pos hto.1, ev_ite, if_pos hto.2, ev_ite, wrap_succ hi (by omega)]
        split
        · have := ih (((i + 1 : Nat) : Int)) (rd_T99 l (toR (bt text i) (rd_T99 l b).f2 (rd_T99 l b).f1)).f0 _ hto.1 hto.2
          simpa using this
        · have := ih e r _ hto.1 hto.2
          simpa using this
    · rw [decide_eq_false c2, if_neg (fun h => c2 ⟨h.2.2.1, h.2.2.2⟩)]
      exact hbad
end Go.Proofs.Ytimdoghlnegpgaa.P
/- What the laws' helpers on Arm answer: its size, its copy, that it equals itself. -/
namespace Go.Proofs.Ytimdoghlnegpgaa.P
open Go.RowKit Go.Proofs.YtimdoghlnegpgaaW.PrintWords Go.Proofs.YtimdoghlnegpgaaW.PrintLast Go.Proofs.YtimdoghlnegpgaaEv
set_option linter.unusedVariables false
set_option linter.unusedSimpArgs false

def g148 (x : S148) : Prop := (Lit.int .i64 x.f0).wf = true ∧ (Lit.int .i64 x.f1).wf = true ∧ (Lit.int .i64 x.f2).wf = true
def cArm (x : S148) : S117 := ⟨x.f0, x.f1, x.f2⟩
theorem laws_szArmS_eq (l : List S148) (a : Int) (hl : l.length ≤ 9223372036854775807) (h0 : 0 ≤ a) (h1 : a ≤ 1048576) : laws_szArmS.f l a = some (if a < l.length then -1 else a - l.length) := by
  unfold laws_szArmS.f
  rw [wrap_id (by omega) (by omega)]
  split <;> split <;> first | rfl | omega
theorem laws_toArmS_ev (l : List S148) (hl : l.length ≤ 1048576) : Ev (fun k => laws_toArmS.f k l) (l.map cArm) := by
  unfold laws_toArmS.f
  simp only [ev_ite]
  rw [if_pos (by omega), if_pos (by omega)]
  have h := ev_loop l.length (fun k i => laws_toArmS.l0 k l (upTo cArm z117 l i) (i : Nat)) (fun _ => l.map cArm) ?_ ?_ 0 (by omega)
  · rw [upTo_zero] at h
    exact h
  · rw [ev_succ, upTo_all]
    simp [laws_toArmS.l0, ev_some]
  · intro i hi ih
    have hr : l.getD i z148 = rd_T148 l i := by simp [rd_T148]
    skip
    rw [ev_succ]
    simp only [laws_toArmS.l0, laws_toArm.f, Option.bind_some, ev_ite]
    rw [if_pos (by omega), if_pos (by omega)]
    skip
    (try simp only [ev_ite])
    rw [if_pos (by rw [upTo_length _ _ _ _ (by omega)]; omega), wrap_succ hi (by omega)]
    have := upTo_set cArm z117 l z148 i hi
    rw [hr] at this
    simp only [Int.toNat_natCast]
    simp only [cArm] at this ih ⊢
    rw [this]
    exact ih
theorem laws_eqArmS_ev (l : List S117) (hl : l.length ≤ 9223372036854775807) : Ev (fun k => laws_eqArmS.f k l l) true := by
  unfold laws_eqArmS.f
  simp only [ev_ite]
  rw [if_pos trivial]
  refine ev_loop l.length (fun k i => laws_eqArmS.l0 k l l (i : Nat)) (fun _ => true) ?_ ?_ 0 (by omega)
  · rw [ev_succ]
    simp [laws_eqArmS.l0, ev_some]
  · intro i hi ih
    skip
    rw [ev_succ]
    simp only [laws_eqArmS.l0, laws_eqArm.f, if_true, bne_self_eq_false, Bool.false_eq_true, if_false, Option.bind_some, ev_ite]
    rw [if_pos (by omega), if_pos (by omega), wrap_succ hi (by omega)]
    (try rw [if_pos (by omega)])
    skip
    (try simp only [if_true, ev_ite])
    exact ih
end Go.Proofs.Ytimdoghlnegpgaa.P
/- What the laws' helpers on CBlock answer: its size, its copy, that it equals itself. -/
namespace Go.Proofs.Ytimdoghlnegpgaa.P
open Go.RowKit Go.Proofs.YtimdoghlnegpgaaW.PrintWords Go.Proofs.YtimdoghlnegpgaaW.PrintLast Go.Proofs.YtimdoghlnegpgaaEv
set_option linter.unusedVariables false
set_option linter.unusedSimpArgs false

def g124 (x : S124) : Prop := (Lit.int .i64 x.f0).wf = true ∧ (x.f1.length ≤ maxLen ∧ ∀ y ∈ x.f1, g148 y) ∧ (Lit.int .i64 x.f2).wf = true
def h99 (x : S99) : Prop := x.f1.length ≤ 9223372036854775807
def cCBlock (x : S124) : S99 := ⟨x.f0, (x.f1.map cArm), x.f2⟩
def wCBlock (x : S124) : Nat := x.f1.length
theorem hCBlock_of_g {x : S124} (hg : g124 x) : h99 (cCBlock x) :=
  by simpa [h99, cCBlock] using Nat.le_trans hg.2.1.1 maxLen_le
theorem laws_szCBlock_ev (v0 : Int) (v1 : List S148) (v2 : Int) (a : Int) (h0 : 0 ≤ a) (h1 : a ≤ 1048576) (hb_v1 : v1.length ≤ 9223372036854775807) : laws_szCBlock.f v0 v1 v2 a = some (if a < ((v1.length : Nat) : Int) then -1 else a - ((v1.length : Nat) : Int)) := by
  unfold laws_szCBlock.f
  rw [laws_szArmS_eq v1 _ hb_v1 (by omega) (by omega)]
  simp only [Option.bind_some]
  by_cases c0_ : a < ((v1.length : Nat) : Int)
  · rw [if_pos c0_, if_pos (by omega)]
    skip
    (try first | rfl | rw [if_pos (by omega)])
  rw [if_neg c0_, if_neg (by omega)]
  skip
  (try rw [if_neg (by omega)])
  (try (first | rfl | omega | (congr 1; omega)))
theorem laws_toCBlock_ev (v0 : Int) (v1 : List S148) (v2 : Int) (hw_v1 : v1.length ≤ 1048576) : Ev (fun k => laws_toCBlock.f k v0 v1 v2) (v0, (v1.map cArm), v2) := by
  unfold laws_toCBlock.f
  rw [ev_bind (laws_toArmS_ev v1 hw_v1)]
  exact ev_some.2 rfl
theorem laws_eqCBlock_ev (v0 : Int) (v1 : List S117) (v2 : Int) (hb_v1 : v1.length ≤ 9223372036854775807) : Ev (fun k => laws_eqCBlock.f k v0 v1 v2 v0 v1 v2) true := by
  unfold laws_eqCBlock.f
  (try simp only [if_true, ev_ite, bne_self_eq_false, Bool.false_eq_true, if_false, ev_some])
  rw [ev_bind (laws_eqArmS_ev v1 hb_v1)]
  (try simp only [if_true, ev_ite, bne_self_eq_false, Bool.false_eq_true, if_false, ev_some])
theorem laws_szCBlockS_ev (l : List S124) (a : Int) (h0 : 0 ≤ a) (h1 : a ≤ 1048576) (hl : l.length ≤ 9223372036854775807) (hg : ∀ x ∈ l, g124 x) : Ev (fun k => laws_szCBlockS.f k l a) (if a < ((l.length + ws wCBlock l : Nat) : Int) then -1 else a - ((l.length + ws wCBlock l : Nat) : Int)) := by
  unfold laws_szCBlockS.f
  rw [wrap_id (by omega) (by omega)]
  simp only [ev_ite]
  by_cases c0 : a - (l.length : Int) < 0
  · rw [if_pos c0]
    exact ev_some.2 (by rw [if_pos (by omega)])
  rw [if_neg c0]
  have key := down l.length (fun i => ∀ x1 : Int, 0 ≤ x1 → x1 ≤ 1048576 → Ev (fun k => laws_szCBlockS.l0 k l x1 (i : Nat)) (if x1 < ((ws wCBlock (l.drop i) : Nat) : Int) then -1 else x1 - ((ws wCBlock (l.drop i) : Nat) : Int))) ?_ ?_ 0 (by omega) (a - (l.length : Int)) (by omega) (by omega)
  · refine ev_congr key ?_
    rw [List.drop_zero]
    split <;> split <;> first | rfl | omega
  · intro x1 h0 h1
    rw [ev_succ]
    simp only [laws_szCBlockS.l0, ev_ite, ev_some]
    rw [if_neg (by omega), List.drop_length]
    simp [ws]
    omega
  · intro i hi ih x1 h0 h1
    rw [ev_succ, ws_drop wCBlock l z124 i hi]
    have hr : l.getD i z124 = rd_T124 l i := by simp [rd_T124]
    rw [hr]
    have hgy : g124 (rd_T124 l i) := by
      rw [← hr, List.getD_eq_getElem?_getD, List.getElem?_eq_getElem hi]
      exact hg _ (List.getElem_mem _)
    simp only [laws_szCBlockS.l0, ev_ite]
    rw [if_pos (by omega), if_pos (by omega), wrap_succ hi (by omega)]
    rw [laws_szCBlock_ev _ _ _ x1 h0 h1 (Nat.le_trans (hgy).2.1.1 maxLen_le)]
    simp only [Option.bind_some, ev_ite]
    have e : ((wCBlock (rd_T124 l i) : Nat) : Int) = (((rd_T124 l i).f1.length : Nat) : Int) := rfl
    by_cases c : x1 < ((wCBlock (rd_T124 l i) : Nat) : Int)
    · have c' : x1 < (((rd_T124 l i).f1.length : Nat) : Int) := by rw [← e]; exact c
      simp only [if_pos c']
      rw [if_pos (by omega)]
      exact ev_some.2 (by rw [if_pos (by omega)])
    · have c' : ¬ x1 < (((rd_T124 l i).f1.length : Nat) : Int) := by rw [← e]; exact c
      simp only [if_neg c']
      rw [if_neg (by rw [← e]; omega)]
      refine ev_congr (ih _ (by rw [← e]; omega) (by rw [← e]; omega)) ?_
      rw [← e]
      split <;> split <;> first | rfl | omega
theorem laws_toCBlockS_ev (l : List S124) (hl : l.length + ws wCBlock l ≤ 1048576) : Ev (fun k => laws_toCBlockS.f k l) (l.map cCBlock) := by
  unfold laws_toCBlockS.f
  simp only [ev_ite]
  rw [if_pos (by omega), if_pos (by omega)]
  have h := ev_loop l.length (fun k i => laws_toCBlockS.l0 k l (upTo cCBlock z99 l i) (i : Nat)) (fun _ => l.map cCBlock) ?_ ?_ 0 (by omega)
  · rw [upTo_zero] at h
    exact h
  · rw [ev_succ, upTo_all]
    simp [laws_toCBlockS.l0, ev_some]
  · intro i hi ih
    have hr : l.getD i z124 = rd_T124 l i := by simp [rd_T124]
    have hwi : wCBlock (rd_T124 l i) ≤ 1048576 := by
      rw [← hr]
      have := ws_le wCBlock l z124 i hi
      omega
    rw [ev_succ]
    simp only [laws_toCBlockS.l0, ev_ite]
    rw [if_pos (by omega), if_pos (by omega)]
    rw [ev_bind (laws_toCBlock_ev _ _ _ (by have e : (rd_T124 l i).f1.length ≤ wCBlock (rd_T124 l i) := (by simp only [wCBlock]; omega); omega))]
    (try simp only [ev_ite])
    rw [if_pos (by rw [upTo_length _ _ _ _ (by omega)]; omega), wrap_succ hi (by omega)]
    have := upTo_set cCBlock z99 l z124 i hi
    rw [hr] at this
    simp only [Int.toNat_natCast]
    simp only [cCBlock] at this ih ⊢
    rw [this]
    exact ih
theorem laws_eqCBlockS_ev (l : List S99) (hl : l.length ≤ 9223372036854775807) (hh : ∀ x ∈ l, h99 x) : Ev (fun k => laws_eqCBlockS.f k l l) true := by
  unfold laws_eqCBlockS.f
  simp only [ev_ite]
  rw [if_pos trivial]
  refine ev_loop l.length (fun k i => laws_eqCBlockS.l0 k l l (i : Nat)) (fun _ => true) ?_ ?_ 0 (by omega)
  · rw [ev_succ]
    simp [laws_eqCBlockS.l0, ev_some]
  · intro i hi ih
    have hhy : h99 (rd_T99 l i) := by
      have hr : l.getD i z99 = rd_T99 l i := by simp [rd_T99]
      rw [← hr, List.getD_eq_getElem?_getD, List.getElem?_eq_getElem hi]
      exact hh _ (List.getElem_mem _)
    rw [ev_succ]
    simp only [laws_eqCBlockS.l0, ev_ite]
    rw [if_pos (by omega), if_pos (by omega), wrap_succ hi (by omega)]
    (try rw [if_pos (by omega)])
    rw [ev_bind (laws_eqCBlock_ev _ _ _ (hhy))]
    (try simp only [if_true, ev_ite])
    exact ih
end Go.Proofs.Ytimdoghlnegpgaa.P
/- What the laws' helpers on Code answer: its size, its copy, that it equals itself. -/
namespace Go.Proofs.Ytimdoghlnegpgaa.P
open Go.RowKit Go.Proofs.YtimdoghlnegpgaaW.PrintWords Go.Proofs.YtimdoghlnegpgaaW.PrintLast Go.Proofs.YtimdoghlnegpgaaEv
set_option linter.unusedVariables false
set_option linter.unusedSimpArgs false

theorem laws_szCode_ev (v0 : List S124) (a : Int) (h0 : 0 ≤ a) (h1 : a ≤ 1048576) (hb_v0 : v0.length ≤ 9223372036854775807) (hg_v0 : ∀ x ∈ v0, g124 x) : Ev (fun k => laws_szCode.f k v0 a) (if a < (((v0.length + ws wCBlock v0) : Nat) : Int) then -1 else a - (((v0.length + ws wCBlock v0) : Nat) : Int)) := by
  unfold laws_szCode.f
  rw [ev_bind (laws_szCBlockS_ev v0 _ (by omega) (by omega) hb_v0 hg_v0)]
  simp only [Option.bind_some, ev_ite]
  by_cases c0_ : a < (((v0.length + ws wCBlock v0) : Nat) : Int)
  · rw [if_pos c0_, if_pos (by omega)]
    refine ev_some.2 ?_
    (try first | rfl | rw [if_pos (by omega)])
  rw [if_neg c0_, if_neg (by omega)]
  refine ev_some.2 ?_
  (try rw [if_neg (by omega)])
  (try (first | rfl | omega | (congr 1; omega)))
theorem laws_toCode_ev (v0 : List S124) (hw_v0 : (v0.length + ws wCBlock v0) ≤ 1048576) : Ev (fun k => laws_toCode.f k v0) (v0.map cCBlock) := by
  unfold laws_toCode.f
  rw [ev_bind (laws_toCBlockS_ev v0 hw_v0)]
  exact ev_some.2 rfl
theorem laws_eqCode_ev (v0 : List S99) (hb_v0 : v0.length ≤ 9223372036854775807) (hh_v0 : ∀ x ∈ v0, h99 x) : Ev (fun k => laws_eqCode.f k v0 v0) true := by
  unfold laws_eqCode.f
  (try simp only [if_true, ev_ite, bne_self_eq_false, Bool.false_eq_true, if_false, ev_some])
  rw [ev_bind (laws_eqCBlockS_ev v0 hb_v0 hh_v0)]
  (try simp only [if_true, ev_ite, bne_self_eq_false, Bool.false_eq_true, if_false, ev_some])
end Go.Proofs.Ytimdoghlnegpgaa.P
/- The pure statement of the law FnExactRunCode: over numbers, texts and lists alone, the law's printed function answers true. -/
namespace Go.Proofs.Ytimdoghlnegpgaa.fnExactRunCode.Pure
open Go.RowKit Go.Proofs.YtimdoghlnegpgaaW.PrintWords Go.Proofs.YtimdoghlnegpgaaW.PrintLast Go.Proofs.Ytimdoghlnegpgaa.P Go.Proofs.YtimdoghlnegpgaaEv
set_option linter.unusedVariables false
set_option linter.unusedSimpArgs false
theorem pure_FnExactRunCode : ∀ (l0_0 : List S124) (a1 : ByteArray) (a2 : Int), (l0_0.length ≤ maxLen ∧ ∀ y ∈ l0_0, g124 y) → a1.size ≤ 140737488351232 → (Lit.int .i64 a2).wf = true → ∃ k, laws_FnExactRunCode.f k l0_0 a1 a2 = some true := by
  rintro l text at_ ⟨hm, hg⟩ ht _
  have hm' := Nat.le_trans hm maxLen_le
  refine ev_get (g := fun k => laws_FnExactRunCode.f k l text at_) ?_
  unfold laws_FnExactRunCode.f
  simp only [ev_ite]
  by_cases hs : (text.size : Int) > 1048576
  · rw [if_pos hs]
    exact ev_some.2 rfl
  rw [if_neg hs, ev_bind (laws_szCode_ev l _ (by omega) (by omega) hm' hg)]
  simp only [Option.bind_some, ev_ite]
  by_cases hl : l.length + ws wCBlock l ≤ 1048576
  · rw [if_neg (by rw [if_neg (by omega)]; omega)]
    have hl' : (l.map cCBlock).length ≤ 1048576 := by simp; omega
    have hh : ∀ x ∈ l.map cCBlock, h99 x := fun y hy => by
      obtain ⟨z, hz, rfl⟩ := List.mem_map.1 hy
      exact hCBlock_of_g (hg z hz)
    rw [ev_bind (laws_toCode_ev l hl), ev_bind (spec_RunCode_ev _ hl' _ (by omega) _), ev_bind (laws_toCode_ev l hl), ev_bind (impl_RunCode_ev _ _ (by omega) _)]
    simp only [if_true, bne_self_eq_false]
    rw [ev_succ]
    simp only [laws_FnExactRunCode.j0, Bool.false_eq_true, if_false]
    rw [ev_bind (laws_toCode_ev l hl), ev_bind (laws_eqCode_ev _ (by omega) hh)]
    exact ev_some.2 rfl
  · rw [if_pos (by rw [if_pos (by omega)]; omega)]
    exact ev_some.2 rfl
end Go.Proofs.Ytimdoghlnegpgaa.fnExactRunCode.Pure
-- The kit's printed words WSized, cut down by wip/gen/pack.py to what this proof reaches.
/- The law FnExactRunCode holds: every call returns true and leaves its arguments as they were. Conditions: none beyond what the given row says. This text: the row, out of the walk's contract and the pure statement. -/
namespace Go.Proofs.Ytimdoghlnegpgaa.fnExactRunCode
open Go.ChangeShapes Go.WideShapes Go.ChangeAt Go.RowKit Go.Proofs.YtimdoghlnegpgaaW.PrintWords Go.Proofs.YtimdoghlnegpgaaOpen Go.Proofs.Ytimdoghlnegpgaa.P
open Go.ChangeMaps (open_string shut_string)
set_option linter.unusedVariables false
set_option linter.unusedSimpArgs false
theorem own : ownKnob Try.prog.godebug = none := by kernel_rfl
theorem laidOut : laidOutB Try.prog = true := by kernel_rfl
theorem o148 : Opens Try.prog 148 k148 g148 := opens_imp (opens_iso (fun x : S148 => (x.f0, x.f1, x.f2)) (fun p => ⟨p.1, p.2.1, p.2.2⟩) (fun _ => rfl) (opens_struct Try.underlying148 (by kernel_rfl) (fields_cons (opens_int Try.underlying2 (by kernel_rfl)) (fields_cons (opens_int Try.underlying2 (by kernel_rfl)) (fields_one (opens_int Try.underlying2 (by kernel_rfl))))))) (fun _ h => h)
theorem o124 : Opens Try.prog 124 k124 g124 := opens_imp (opens_iso (fun x : S124 => (x.f0, x.f1, x.f2)) (fun p => ⟨p.1, p.2.1, p.2.2⟩) (fun _ => rfl) (opens_struct Try.underlying124 (by kernel_rfl) (fields_cons (opens_int Try.underlying2 (by kernel_rfl)) (fields_cons (opens_slice Try.underlying122 (by kernel_rfl) o148) (fields_one (opens_int Try.underlying2 (by kernel_rfl))))))) (fun _ h => h)
set_option maxRecDepth 100000 in
theorem lifted (os : Os) (started : os.Started) (H : Type) (enc : TypeId × Value → H) :
    ReturnsInHanded {} Try.checked os 11 .any (Rows.fnExactRunCodeSpec.pre6 enc Try.prog Try.f11 Rows.fnExactRunCodeRow.domain false) (Rows.fnExactRunCodeSpec.post enc Try.prog Try.f11 false true false false) := by
  refine returnsInHanded_of_change_sized (C := Try.checked) own started (by kernel_rfl) Try.func11
    (ChangeSpec.witness6 (enc := enc) (C := Try.checked) false ⟨#[], #[.agg #[.slice none 0 0], .string ByteArray.empty, .int .i64 0], []⟩ 8 (by kernel_rfl) (by kernel_rfl) (by kernel_rfl) (by kernel_rfl)) ?_
  intro W base args ds gs before hval0 hW hcnd hsz0 _
  have hsz : (DataW.weightsEach Try.prog (Try.f11.params.toList ++ Rows.fnExactRunCodeSpec.plain.varTypes Try.prog) (ds ++ gs)).all (· ≤ reachBytes) = true := hsz0
  have hval : ∀ (j : Nat) t v, Try.f11.params[j]? = some t → args[j]? = some v → Value.okWide Try.prog W .any base t v := hval0
  have hW' := hW
  obtain ⟨p, q, hA0, hV, rfl, hfz, hnd⟩ := hW
  have hA : DataW.TrodAll enc Try.prog W 0 (fun _ => true) true Try.f11.params.toList args.toList ds p := hA0
  rw [Try.params11] at hA hval hsz
  obtain ⟨v0, vs0, d0, ds0, p0, q0, hargs, rfl, rfl, h0, r0⟩ := trodAll_cons hA
  obtain ⟨v1, vs1, d1, ds1, p1, q1, rfl, rfl, rfl, h1, r1⟩ := trodAll_cons r0
  obtain ⟨v2, vs2, d2, ds2, p2, q2, rfl, rfl, rfl, h2, r2⟩ := trodAll_cons r1
  obtain ⟨rfl, rfl, rfl⟩ := trodAll_nil r2
  obtain rfl : args = #[v0, v1, v2] := by cases args; simp_all
  obtain ⟨rfl, rfl⟩ := trodVars_none hV
  have k0' := h0
  have lt0 : ∀ x ∈ p0, x.block < W.heap.size := by obtain ⟨m, hm⟩ := k0'; exact DataW.trod_lt m _ _ _ hm
  obtain ⟨cs0, rfl, hn0⟩ := okWide_struct Try.underlying53 (hval 0 53 v0 rfl rfl)
  obtain ⟨fuel0, hf0⟩ := h0
  have hf0' : DataW.trod enc Try.prog W 0 (fun _ => true) true fuel0 53 cs0.toList = some (d0, p0) := hf0
  obtain ⟨x0, hK0, hG0⟩ := (opens_struct Try.underlying53 (by kernel_rfl) (fields_one (opens_slice Try.underlying51 (by kernel_rfl) o124))).op enc W 0 (fun _ => true) true fuel0 _ _ hf0'
  have hG0' := hG0
  obtain ⟨A0_0, c0_0, hs0_0, hl0_0, hC0_0⟩ := hK0
  obtain rfl : cs0 = #[.slice A0_0 x0.length c0_0] := by
    apply Array.ext'
    simp only [hs0_0, List.cons_append, List.nil_append]
  obtain ⟨a1, rfl, rfl, rfl, y1⟩ := open_string Try.underlying9 (hval 1 9 v1 rfl rfl) h1
  have w1 : a1.size ≤ 140737488351232 := by
    have z := sized_string hsz (j := 1) (t := 9) rfl rfl
    rw [Array.length_toList] at z
    exact z
  obtain ⟨a2, rfl, rfl, rfl, w2⟩ := open_int Try.underlying2 (hval 2 2 v2 rfl rfl) h2
  clear hA0 hval0 hsz0 hsz
  obtain ⟨k, hk⟩ := Pure.pure_FnExactRunCode _ a1 a2 hG0' w1 w2
  refine (laws_FnExactRunCode.calls k A0_0 c0_0 _ a1 a2 true W hC0_0 hl0_0 hk).mono fun e W' ⟨he, bel0⟩ => ?_
  have bel : Below W.heap.size W W' := bel0
  subst he
  exact ⟨_, rfl, _, _, _, [], _, [], hW', trodAll_mk1 (shut_bool Try.underlying4 _), (trodAll_cons_mk (Below.trod laidOut (by kernel_rfl) (of_decide_eq_true (by kernel_rfl)) k0' bel lt0) (trodAll_cons_mk (shut_string Try.underlying9 y1) (trodAll_cons_mk (shut_int Try.underlying2 w2) trodAll_mk0))), rfl, bel.frame _, fun h => by cases h⟩
theorem over : Rows.fnExactRunCodeRow.holds Try.pinned (OpenSpec.ofChange Rows.fnExactRunCodeSpec) :=
  OpenClaim.holds_of_wide 11 Try.f11 rfl rfl rfl rfl rfl rfl rfl ⟨rfl, rfl, rfl, rfl, rfl⟩ rfl rfl rfl rfl rfl (by kernel_rfl) Try.func11 (by kernel_rfl)
    (of_decide_eq_true (by kernel_rfl)) (by unfold Func.isWrapper; first | (rw [if_pos (by decide +kernel)]; kernel_rfl) | (rw [if_neg (by decide +kernel)]; exact ⟨rfl, rfl⟩))
    (fun os started H enc _ => lifted os started H enc)
theorem proved : Rows.FnExactRunCodeSaid := over
#print axioms proved
end Go.Proofs.Ytimdoghlnegpgaa.fnExactRunCode
namespace Go.Proofs.Ytimdoghlnegpgaa
/-- The row, under a short name, for the claim. -/
theorem fnExactRunCode_holds : Rows.FnExactRunCodeSaid := fnExactRunCode.proved
end Go.Proofs.Ytimdoghlnegpgaa
