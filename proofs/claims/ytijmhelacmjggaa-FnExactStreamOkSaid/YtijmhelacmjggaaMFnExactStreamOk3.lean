/- The law FnExactStreamOk holds for every call: part 4 of 6 of the proof (walks of functions, and what they answer). Conditions: none beyond what the given row says. -/
import Derived.Test.YtijmhelacmjggaaMFnExactStreamOk2
import Derived.Test.YtijmhelacmjggaaMFnExactStreamOk0
import Derived.Test.YtijmhelacmjggaaMFnExactStreamOk1
namespace Go.Proofs.Ytijmhelacmjggaa.P
open Go.RowKit Go.Shelf Go.Proofs.YtijmhelacmjggaaW.PrintWords Go.Proofs.YtijmhelacmjggaaW.PrintLast Go.Proofs.YtijmhelacmjggaaW.PrintMore Go.Proofs.YtijmhelacmjggaaEv
set_option linter.unusedVariables false
set_option linter.unusedSimpArgs false
set_option maxRecDepth 100000 in
/-- The closure of nodeOk: a Kid that lies not ahead of the place. -/
theorem nodeOk_1_calls (place : Int) (h0 : -9223372036854775807 ≤ place) (h1 : place ≤ 9223372036854775807) (B : Nat) (w : World) (n : Nat) (hcell : w.cell? ⟨B, 0, none⟩ = some (.int .i64 place)) (x : Int) :
    Calls Try.prog 154 #[.int .i64 x, .pointer (some ⟨B, 0, none⟩)] (w.drewN n) fun e w' => e = .returned (.bool (!decide (0 ≤ x ∧ x ≤ place - 1))) ∧ ∃ m, w' = (w.drewN n).drewN m := by
  have hw1 := Aside0.mk (impl_within_eq x 0 (place - 1))
  generalize decide (0 ≤ x ∧ x ≤ place - 1) = b at hw1 ⊢
  go_enter Try.func154, Try.ntmps154
  go_wp2_with fail
  refine (impl_within.calls _ _ _ _ _ hw1.out).mono ?_
  rintro e w' ⟨rfl, ⟨nd, rfl⟩⟩
  go_wp2_with fail
  go_ret
  exact ⟨rfl, nd, by first | rfl | simp⟩
theorem kids_calls (place : Int) (h0 : -9223372036854775807 ≤ place) (h1 : place ≤ 9223372036854775807) (B : Nat) (w : World) (hcell : w.cell? ⟨B, 0, none⟩ = some (.int .i64 place)) (A2 : Option Addr) (c2 : Nat) (l2 : List Int) (hr2 : Kd.C (Kd.int .i64) w A2 l2.length l2) (b : Bool) (hb : Aside0 (l2.any (fun x => !decide (0 ≤ x ∧ x ≤ place - 1)) = b)) :
    Calls Try.prog 153 #[.slice A2 l2.length c2, .func (.func 154) #[] #[.pointer (some ⟨B, 0, none⟩)]] w fun e w' => e = .returned (.bool b) ∧ Drawn0 w w' := by
  have eg : ∀ args w, (callFunc 154 args).run Try.prog w = .ok (.enter 154 args) w := enters_of Try.func154 (by kernel_rfl) rfl
  have := ContainsFunc_int 154 #[.pointer (some ⟨B, 0, none⟩)] eg (fun x => !decide (0 ≤ x ∧ x ≤ place - 1)) A2 c2 l2 w hr2 (fun n x _ => nodeOk_1_calls place h0 h1 B w n hcell x)
  rw [hb.out] at this
  exact this
set_option maxHeartbeats 1000000 in
set_option maxRecDepth 100000 in
theorem nodeOk_kids (op : Int) (A1 : Option Addr) (c1 : Nat) (l1 : List S103) (A2 : Option Addr) (c2 : Nat) (l2 : List Int) (mi ma place : Int) (w : World) (hp0 : 0 ≤ place) (hp1 : place ≤ 1000000) (hr1 : Kd.C k103 w A1 l1.length l1) (hc1 : l1.length ≤ c1) (hr2 : Kd.C (Kd.int .i64) w A2 l2.length l2) (hc2 : l2.length ≤ c2) (hk : (l2.length : Int) ≠ kidsN op) :
    Calls Try.prog 119 #[.agg #[.int .i64 op, .slice A1 l1.length c1, .slice A2 l2.length c2, .int .i64 mi, .int .i64 ma], .int .i64 place] w fun e w' => e = .returned (.bool false) ∧ Below w.heap.size w w' := by
  obtain ⟨kk, hkk⟩ := ev_get (impl_kidsOf_ev op)
  have HK := Aside0.mk hkk
  have HR1 := Aside0.mk hr1
  have HC1 := Aside0.mk hc1
  have HR2 := Aside0.mk hr2
  have HC2 := Aside0.mk hc2
  clear hkk hr1 hc1 hr2 hc2
  generalize kidsN op = ko at HK hk
  have hb0 : Below w.heap.size w ((w.alloc (.cells #[.int .i64 op, .slice A1 l1.length c1, .slice A2 l2.length c2, .int .i64 mi, .int .i64 ma] 156)).alloc (.cells #[.int .i64 place] 2)) := below_alloc (below_alloc (Below.refl _ _) _) _
  have hne : ((l2.length : Int) != ko) = true := bne_iff_ne.2 hk
  clear hk
  go_enter Try.func119, Try.ntmps119
  go_wp2_with fail
  go_quiet (first | (go_at_call 152; refine (impl_kidsOf.calls _ _ _ _ HK.out).mono ?_; rintro e w' ⟨rfl, ⟨nd, rfl⟩⟩; first | exact ⟨rfl, _, World.drewN_drewN _ _ _⟩ | exact ⟨rfl, _, Eq.trans (World.drewN_drewN _ _ _) (congrArg (World.drewN _) (Nat.add_assoc _ _ _))⟩))
  go_wp2_with fail
  go_ret
  exact ⟨rfl, by repeat (first | exact hb0 | apply pw_below_drewN | apply below_drew1)⟩
set_option maxHeartbeats 1000000 in
set_option maxRecDepth 100000 in
theorem nodeOk_any (op : Int) (A1 : Option Addr) (c1 : Nat) (l1 : List S103) (A2 : Option Addr) (c2 : Nat) (l2 : List Int) (mi ma place : Int) (w : World) (hp0 : 0 ≤ place) (hp1 : place ≤ 1000000) (hr1 : Kd.C k103 w A1 l1.length l1) (hc1 : l1.length ≤ c1) (hr2 : Kd.C (Kd.int .i64) w A2 l2.length l2) (hc2 : l2.length ≤ c2) (hk : (l2.length : Int) = kidsN op) (hany : Aside0 (l2.any (fun x => !decide (0 ≤ x ∧ x ≤ place - 1)) = true)) :
    Calls Try.prog 119 #[.agg #[.int .i64 op, .slice A1 l1.length c1, .slice A2 l2.length c2, .int .i64 mi, .int .i64 ma], .int .i64 place] w fun e w' => e = .returned (.bool false) ∧ Below w.heap.size w w' := by
  obtain ⟨kk, hkk⟩ := ev_get (impl_kidsOf_ev op)
  have HK := Aside0.mk hkk
  have HR1 := Aside0.mk hr1
  have HC1 := Aside0.mk hc1
  have HR2 := Aside0.mk hr2
  have HC2 := Aside0.mk hc2
  clear hkk hr1 hc1 hr2 hc2
  generalize kidsN op = ko at HK hk
  have hb0 : Below w.heap.size w ((w.alloc (.cells #[.int .i64 op, .slice A1 l1.length c1, .slice A2 l2.length c2, .int .i64 mi, .int .i64 ma] 156)).alloc (.cells #[.int .i64 place] 2)) := below_alloc (below_alloc (Below.refl _ _) _) _
  have hne : ((l2.length : Int) != ko) = false := bne_eq_false_iff_eq.2 hk
  clear hk
  go_enter Try.func119, Try.ntmps119
  go_wp2_with fail
  go_quiet (first | (go_at_call 152; refine (impl_kidsOf.calls _ _ _ _ HK.out).mono ?_; rintro e w' ⟨rfl, ⟨nd, rfl⟩⟩; first | exact ⟨rfl, _, World.drewN_drewN _ _ _⟩ | exact ⟨rfl, _, Eq.trans (World.drewN_drewN _ _ _) (congrArg (World.drewN _) (Nat.add_assoc _ _ _))⟩) | (go_at_call 153; refine (kids_calls place (by omega) (by omega) (w.heap.size + 1) _ ?hcl _ _ l2 ?hr _ hany).mono ?_; (case hcl => (go_simp; done)); (case hr => exact Kd.C_below HR2.out (by repeat (first | exact hb0 | apply pw_below_drewN | apply below_drew1))); rintro e w' ⟨rfl, ⟨nd, rfl⟩⟩; first | exact ⟨rfl, _, World.drewN_drewN _ _ _⟩ | exact ⟨rfl, _, Eq.trans (World.drewN_drewN _ _ _) (congrArg (World.drewN _) (Nat.add_assoc _ _ _))⟩))
  go_wp2_with fail
  go_ret
  exact ⟨rfl, by repeat (first | exact hb0 | apply pw_below_drewN | apply below_drew1)⟩
set_option maxHeartbeats 1000000 in
set_option maxRecDepth 100000 in
theorem nodeOk_class (op : Int) (A1 : Option Addr) (c1 : Nat) (l1 : List S103) (A2 : Option Addr) (c2 : Nat) (l2 : List Int) (mi ma place : Int) (w : World) (hp0 : 0 ≤ place) (hp1 : place ≤ 1000000) (hr1 : Kd.C k103 w A1 l1.length l1) (hc1 : l1.length ≤ c1) (hr2 : Kd.C (Kd.int .i64) w A2 l2.length l2) (hc2 : l2.length ≤ c2) (hk : (l2.length : Int) = kidsN op) (hany : Aside0 (l2.any (fun x => !decide (0 ≤ x ∧ x ≤ place - 1)) = false)) (h2 : (op == 2) = true) (h2' : (op != 2) = false) (kc : Nat) (hcl : impl_ClassOk.f kc l1 = some false) :
    Calls Try.prog 119 #[.agg #[.int .i64 op, .slice A1 l1.length c1, .slice A2 l2.length c2, .int .i64 mi, .int .i64 ma], .int .i64 place] w fun e w' => e = .returned (.bool false) ∧ Below w.heap.size w w' := by
  obtain ⟨kk, hkk⟩ := ev_get (impl_kidsOf_ev op)
  have HK := Aside0.mk hkk
  have HR1 := Aside0.mk hr1
  have HC1 := Aside0.mk hc1
  have HR2 := Aside0.mk hr2
  have HC2 := Aside0.mk hc2
  clear hkk hr1 hc1 hr2 hc2
  generalize kidsN op = ko at HK hk
  have hb0 : Below w.heap.size w ((w.alloc (.cells #[.int .i64 op, .slice A1 l1.length c1, .slice A2 l2.length c2, .int .i64 mi, .int .i64 ma] 156)).alloc (.cells #[.int .i64 place] 2)) := below_alloc (below_alloc (Below.refl _ _) _) _
  have hne : ((l2.length : Int) != ko) = false := bne_eq_false_iff_eq.2 hk
  clear hk
  have HCl := Aside0.mk hcl
  clear hcl
  go_enter Try.func119, Try.ntmps119
  go_wp2_with fail
  go_quiet (first | (go_at_call 152; refine (impl_kidsOf.calls _ _ _ _ HK.out).mono ?_; rintro e w' ⟨rfl, ⟨nd, rfl⟩⟩; first | exact ⟨rfl, _, World.drewN_drewN _ _ _⟩ | exact ⟨rfl, _, Eq.trans (World.drewN_drewN _ _ _) (congrArg (World.drewN _) (Nat.add_assoc _ _ _))⟩) | (go_at_call 153; refine (kids_calls place (by omega) (by omega) (w.heap.size + 1) _ ?hcl _ _ l2 ?hr _ hany).mono ?_; (case hcl => (go_simp; done)); (case hr => exact Kd.C_below HR2.out (by repeat (first | exact hb0 | apply pw_below_drewN | apply below_drew1))); rintro e w' ⟨rfl, ⟨nd, rfl⟩⟩; first | exact ⟨rfl, _, World.drewN_drewN _ _ _⟩ | exact ⟨rfl, _, Eq.trans (World.drewN_drewN _ _ _) (congrArg (World.drewN _) (Nat.add_assoc _ _ _))⟩))
  go_wp2_with fail
  refine (impl_ClassOk.calls kc _ _ l1 false _ ?side1 HC1.out HCl.out).mono ?_
  case side1 => exact Kd.C_below HR1.out (by repeat (first | exact hb0 | apply pw_below_drewN | apply below_drew1))
  rintro e w1 ⟨rfl, hb1⟩
  have hbb : Below w.heap.size w w1 := below_then (by repeat (first | exact hb0 | apply pw_below_drewN | apply below_drew1)) (by simp; omega) hb1
  have hg0 : w1.cell? ⟨w.heap.size, 0, none⟩ = some (.int .i64 op) := (hb1.cell (p := ⟨w.heap.size, 0, none⟩) (by simp; omega)).trans (by go_simp)
  have hg1 : w1.cell? ⟨w.heap.size, 1, none⟩ = some (.slice A1 l1.length c1) := (hb1.cell (p := ⟨w.heap.size, 1, none⟩) (by simp; omega)).trans (by go_simp)
  have hg3 : w1.cell? ⟨w.heap.size, 3, none⟩ = some (.int .i64 mi) := (hb1.cell (p := ⟨w.heap.size, 3, none⟩) (by simp; omega)).trans (by go_simp)
  have hg4 : w1.cell? ⟨w.heap.size, 4, none⟩ = some (.int .i64 ma) := (hb1.cell (p := ⟨w.heap.size, 4, none⟩) (by simp; omega)).trans (by go_simp)
  clear hb1
  go_wp2_with fail
  go_ret
  exact ⟨rfl, by repeat (first | exact hbb | apply pw_below_drewN | apply below_drew1)⟩
set_option maxHeartbeats 1000000 in
set_option maxRecDepth 100000 in
theorem nodeOk_bare (op : Int) (A1 : Option Addr) (c1 : Nat) (l1 : List S103) (A2 : Option Addr) (c2 : Nat) (l2 : List Int) (mi ma place : Int) (w : World) (hp0 : 0 ≤ place) (hp1 : place ≤ 1000000) (hr1 : Kd.C k103 w A1 l1.length l1) (hc1 : l1.length ≤ c1) (hr2 : Kd.C (Kd.int .i64) w A2 l2.length l2) (hc2 : l2.length ≤ c2) (hk : (l2.length : Int) = kidsN op) (hany : Aside0 (l2.any (fun x => !decide (0 ≤ x ∧ x ≤ place - 1)) = false)) (h2 : (op == 2) = true) (h2' : (op != 2) = false) (kc : Nat) (hcl : impl_ClassOk.f kc l1 = some true) (he : ((l1.length : Int) == 0) = true) :
    Calls Try.prog 119 #[.agg #[.int .i64 op, .slice A1 l1.length c1, .slice A2 l2.length c2, .int .i64 mi, .int .i64 ma], .int .i64 place] w fun e w' => e = .returned (.bool false) ∧ Below w.heap.size w w' := by
  obtain ⟨kk, hkk⟩ := ev_get (impl_kidsOf_ev op)
  have HK := Aside0.mk hkk
  have HR1 := Aside0.mk hr1
  have HC1 := Aside0.mk hc1
  have HR2 := Aside0.mk hr2
  have HC2 := Aside0.mk hc2
  clear hkk hr1 hc1 hr2 hc2
  generalize kidsN op = ko at HK hk
  have hb0 : Below w.heap.size w ((w.alloc (.cells #[.int .i64 op, .slice A1 l1.length c1, .slice A2 l2.length c2, .int .i64 mi, .int .i64 ma] 156)).alloc (.cells #[.int .i64 place] 2)) := below_alloc (below_alloc (Below.refl _ _) _) _
  have hne : ((l2.length : Int) != ko) = false := bne_eq_false_iff_eq.2 hk
  clear hk
  have HCl := Aside0.mk hcl
  clear hcl
  go_enter Try.func119, Try.ntmps119
  go_wp2_with fail
  go_quiet (first | (go_at_call 152; refine (impl_kidsOf.calls _ _ _ _ HK.out).mono ?_; rintro e w' ⟨rfl, ⟨nd, rfl⟩⟩; first | exact ⟨rfl, _, World.drewN_drewN _ _ _⟩ | exact ⟨rfl, _, Eq.trans (World.drewN_drewN _ _ _) (congrArg (World.drewN _) (Nat.add_assoc _ _ _))⟩) | (go_at_call 153; refine (kids_calls place (by omega) (by omega) (w.heap.size + 1) _ ?hcl _ _ l2 ?hr _ hany).mono ?_; (case hcl => (go_simp; done)); (case hr => exact Kd.C_below HR2.out (by repeat (first | exact hb0 | apply pw_below_drewN | apply below_drew1))); rintro e w' ⟨rfl, ⟨nd, rfl⟩⟩; first | exact ⟨rfl, _, World.drewN_drewN _ _ _⟩ | exact ⟨rfl, _, Eq.trans (World.drewN_drewN _ _ _) (congrArg (World.drewN _) (Nat.add_assoc _ _ _))⟩))
  go_wp2_with fail
  refine (impl_ClassOk.calls kc _ _ l1 true _ ?side1 HC1.out HCl.out).mono ?_
  case side1 => exact Kd.C_below HR1.out (by repeat (first | exact hb0 | apply pw_below_drewN | apply below_drew1))
  rintro e w1 ⟨rfl, hb1⟩
  have hbb : Below w.heap.size w w1 := below_then (by repeat (first | exact hb0 | apply pw_below_drewN | apply below_drew1)) (by simp; omega) hb1
  have hg0 : w1.cell? ⟨w.heap.size, 0, none⟩ = some (.int .i64 op) := (hb1.cell (p := ⟨w.heap.size, 0, none⟩) (by simp; omega)).trans (by go_simp)
  have hg1 : w1.cell? ⟨w.heap.size, 1, none⟩ = some (.slice A1 l1.length c1) := (hb1.cell (p := ⟨w.heap.size, 1, none⟩) (by simp; omega)).trans (by go_simp)
  have hg3 : w1.cell? ⟨w.heap.size, 3, none⟩ = some (.int .i64 mi) := (hb1.cell (p := ⟨w.heap.size, 3, none⟩) (by simp; omega)).trans (by go_simp)
  have hg4 : w1.cell? ⟨w.heap.size, 4, none⟩ = some (.int .i64 ma) := (hb1.cell (p := ⟨w.heap.size, 4, none⟩) (by simp; omega)).trans (by go_simp)
  clear hb1
  go_wp2_with fail
  go_ret
  exact ⟨rfl, by repeat (first | exact hbb | apply pw_below_drewN | apply below_drew1)⟩
set_option maxHeartbeats 1000000 in
set_option maxRecDepth 100000 in
theorem nodeOk_set0 (op : Int) (A1 : Option Addr) (c1 : Nat) (l1 : List S103) (A2 : Option Addr) (c2 : Nat) (l2 : List Int) (mi ma place : Int) (w : World) (hp0 : 0 ≤ place) (hp1 : place ≤ 1000000) (hr1 : Kd.C k103 w A1 l1.length l1) (hc1 : l1.length ≤ c1) (hr2 : Kd.C (Kd.int .i64) w A2 l2.length l2) (hc2 : l2.length ≤ c2) (hk : (l2.length : Int) = kidsN op) (hany : Aside0 (l2.any (fun x => !decide (0 ≤ x ∧ x ≤ place - 1)) = false)) (h2 : (op == 2) = true) (h2' : (op != 2) = false) (kc : Nat) (hcl : impl_ClassOk.f kc l1 = some true) (he : ((l1.length : Int) == 0) = false) (h8 : (op == 8) = false) (hmi : (mi == 0) = false) :
    Calls Try.prog 119 #[.agg #[.int .i64 op, .slice A1 l1.length c1, .slice A2 l2.length c2, .int .i64 mi, .int .i64 ma], .int .i64 place] w fun e w' => e = .returned (.bool false) ∧ Below w.heap.size w w' := by
  obtain ⟨kk, hkk⟩ := ev_get (impl_kidsOf_ev op)
  have HK := Aside0.mk hkk
  have HR1 := Aside0.mk hr1
  have HC1 := Aside0.mk hc1
  have HR2 := Aside0.mk hr2
  have HC2 := Aside0.mk hc2
  clear hkk hr1 hc1 hr2 hc2
  generalize kidsN op = ko at HK hk
  have hb0 : Below w.heap.size w ((w.alloc (.cells #[.int .i64 op, .slice A1 l1.length c1, .slice A2 l2.length c2, .int .i64 mi, .int .i64 ma] 156)).alloc (.cells #[.int .i64 place] 2)) := below_alloc (below_alloc (Below.refl _ _) _) _
  have hne : ((l2.length : Int) != ko) = false := bne_eq_false_iff_eq.2 hk
  clear hk
  have HCl := Aside0.mk hcl
  clear hcl
  go_enter Try.func119, Try.ntmps119
  go_wp2_with fail
  go_quiet (first | (go_at_call 152; refine (impl_kidsOf.calls _ _ _ _ HK.out).mono ?_; rintro e w' ⟨rfl, ⟨nd, rfl⟩⟩; first | exact ⟨rfl, _, World.drewN_drewN _ _ _⟩ | exact ⟨rfl, _, Eq.trans (World.drewN_drewN _ _ _) (congrArg (World.drewN _) (Nat.add_assoc _ _ _))⟩) | (go_at_call 153; refine (kids_calls place (by omega) (by omega) (w.heap.size + 1) _ ?hcl _ _ l2 ?hr _ hany).mono ?_; (case hcl => (go_simp; done)); (case hr => exact Kd.C_below HR2.out (by repeat (first | exact hb0 | apply pw_below_drewN | apply below_drew1))); rintro e w' ⟨rfl, ⟨nd, rfl⟩⟩; first | exact ⟨rfl, _, World.drewN_drewN _ _ _⟩ | exact ⟨rfl, _, Eq.trans (World.drewN_drewN _ _ _) (congrArg (World.drewN _) (Nat.add_assoc _ _ _))⟩))
  go_wp2_with fail
  refine (impl_ClassOk.calls kc _ _ l1 true _ ?side1 HC1.out HCl.out).mono ?_
  case side1 => exact Kd.C_below HR1.out (by repeat (first | exact hb0 | apply pw_below_drewN | apply below_drew1))
  rintro e w1 ⟨rfl, hb1⟩
  have hbb : Below w.heap.size w w1 := below_then (by repeat (first | exact hb0 | apply pw_below_drewN | apply below_drew1)) (by simp; omega) hb1
  have hg0 : w1.cell? ⟨w.heap.size, 0, none⟩ = some (.int .i64 op) := (hb1.cell (p := ⟨w.heap.size, 0, none⟩) (by simp; omega)).trans (by go_simp)
  have hg1 : w1.cell? ⟨w.heap.size, 1, none⟩ = some (.slice A1 l1.length c1) := (hb1.cell (p := ⟨w.heap.size, 1, none⟩) (by simp; omega)).trans (by go_simp)
  have hg3 : w1.cell? ⟨w.heap.size, 3, none⟩ = some (.int .i64 mi) := (hb1.cell (p := ⟨w.heap.size, 3, none⟩) (by simp; omega)).trans (by go_simp)
  have hg4 : w1.cell? ⟨w.heap.size, 4, none⟩ = some (.int .i64 ma) := (hb1.cell (p := ⟨w.heap.size, 4, none⟩) (by simp; omega)).trans (by go_simp)
  clear hb1
  go_wp2_with fail
  go_ret
  exact ⟨rfl, by repeat (first | exact hbb | apply pw_below_drewN | apply below_drew1)⟩
set_option maxHeartbeats 1000000 in
set_option maxRecDepth 100000 in
theorem nodeOk_set1 (op : Int) (A1 : Option Addr) (c1 : Nat) (l1 : List S103) (A2 : Option Addr) (c2 : Nat) (l2 : List Int) (mi ma place : Int) (w : World) (hp0 : 0 ≤ place) (hp1 : place ≤ 1000000) (hr1 : Kd.C k103 w A1 l1.length l1) (hc1 : l1.length ≤ c1) (hr2 : Kd.C (Kd.int .i64) w A2 l2.length l2) (hc2 : l2.length ≤ c2) (hk : (l2.length : Int) = kidsN op) (hany : Aside0 (l2.any (fun x => !decide (0 ≤ x ∧ x ≤ place - 1)) = false)) (h2 : (op == 2) = true) (h2' : (op != 2) = false) (kc : Nat) (hcl : impl_ClassOk.f kc l1 = some true) (he : ((l1.length : Int) == 0) = false) (h8 : (op == 8) = false) (hmi : (mi == 0) = true) :
    Calls Try.prog 119 #[.agg #[.int .i64 op, .slice A1 l1.length c1, .slice A2 l2.length c2, .int .i64 mi, .int .i64 ma], .int .i64 place] w fun e w' => e = .returned (.bool (ma == 0)) ∧ Below w.heap.size w w' := by
  obtain ⟨kk, hkk⟩ := ev_get (impl_kidsOf_ev op)
  have HK := Aside0.mk hkk
  have HR1 := Aside0.mk hr1
  have HC1 := Aside0.mk hc1
  have HR2 := Aside0.mk hr2
  have HC2 := Aside0.mk hc2
  clear hkk hr1 hc1 hr2 hc2
  generalize kidsN op = ko at HK hk
  have hb0 : Below w.heap.size w ((w.alloc (.cells #[.int .i64 op, .slice A1 l1.length c1, .slice A2 l2.length c2, .int .i64 mi, .int .i64 ma] 156)).alloc (.cells #[.int .i64 place] 2)) := below_alloc (below_alloc (Below.refl _ _) _) _
  have hne : ((l2.length : Int) != ko) = false := bne_eq_false_iff_eq.2 hk
  clear hk
  have HCl := Aside0.mk hcl
  clear hcl
  go_enter Try.func119, Try.ntmps119
  go_wp2_with fail
  go_quiet (first | (go_at_call 152; refine (impl_kidsOf.calls _ _ _ _ HK.out).mono ?_; rintro e w' ⟨rfl, ⟨nd, rfl⟩⟩; first | exact ⟨rfl, _, World.drewN_drewN _ _ _⟩ | exact ⟨rfl, _, Eq.trans (World.drewN_drewN _ _ _) (congrArg (World.drewN _) (Nat.add_assoc _ _ _))⟩) | (go_at_call 153; refine (kids_calls place (by omega) (by omega) (w.heap.size + 1) _ ?hcl _ _ l2 ?hr _ hany).mono ?_; (case hcl => (go_simp; done)); (case hr => exact Kd.C_below HR2.out (by repeat (first | exact hb0 | apply pw_below_drewN | apply below_drew1))); rintro e w' ⟨rfl, ⟨nd, rfl⟩⟩; first | exact ⟨rfl, _, World.drewN_drewN _ _ _⟩ | exact ⟨rfl, _, Eq.trans (World.drewN_drewN _ _ _) (congrArg (World.drewN _) (Nat.add_assoc _ _ _))⟩))
  go_wp2_with fail
  refine (impl_ClassOk.calls kc _ _ l1 true _ ?side1 HC1.out HCl.out).mono ?_
  case side1 => exact Kd.C_below HR1.out (by repeat (first | exact hb0 | apply pw_below_drewN | apply below_drew1))
  rintro e w1 ⟨rfl, hb1⟩
  have hbb : Below w.heap.size w w1 := below_then (by repeat (first | exact hb0 | apply pw_below_drewN | apply below_drew1)) (by simp; omega) hb1
  have hg0 : w1.cell? ⟨w.heap.size, 0, none⟩ = some (.int .i64 op) := (hb1.cell (p := ⟨w.heap.size, 0, none⟩) (by simp; omega)).trans (by go_simp)
  have hg1 : w1.cell? ⟨w.heap.size, 1, none⟩ = some (.slice A1 l1.length c1) := (hb1.cell (p := ⟨w.heap.size, 1, none⟩) (by simp; omega)).trans (by go_simp)
  have hg3 : w1.cell? ⟨w.heap.size, 3, none⟩ = some (.int .i64 mi) := (hb1.cell (p := ⟨w.heap.size, 3, none⟩) (by simp; omega)).trans (by go_simp)
  have hg4 : w1.cell? ⟨w.heap.size, 4, none⟩ = some (.int .i64 ma) := (hb1.cell (p := ⟨w.heap.size, 4, none⟩) (by simp; omega)).trans (by go_simp)
  clear hb1
  go_wp2_with fail
  go_ret
  exact ⟨rfl, by repeat (first | exact hbb | apply pw_below_drewN | apply below_drew1)⟩
set_option maxHeartbeats 1000000 in
set_option maxRecDepth 100000 in
theorem nodeOk_full (op : Int) (A1 : Option Addr) (c1 : Nat) (l1 : List S103) (A2 : Option Addr) (c2 : Nat) (l2 : List Int) (mi ma place : Int) (w : World) (hp0 : 0 ≤ place) (hp1 : place ≤ 1000000) (hr1 : Kd.C k103 w A1 l1.length l1) (hc1 : l1.length ≤ c1) (hr2 : Kd.C (Kd.int .i64) w A2 l2.length l2) (hc2 : l2.length ≤ c2) (hk : (l2.length : Int) = kidsN op) (hany : Aside0 (l2.any (fun x => !decide (0 ≤ x ∧ x ≤ place - 1)) = false)) (h2 : (op == 2) = false) (h2' : (op != 2) = true) (he : decide (0 < l1.length) = true) (he' : decide (0 < (l1.length : Int)) = true) :
    Calls Try.prog 119 #[.agg #[.int .i64 op, .slice A1 l1.length c1, .slice A2 l2.length c2, .int .i64 mi, .int .i64 ma], .int .i64 place] w fun e w' => e = .returned (.bool false) ∧ Below w.heap.size w w' := by
  obtain ⟨kk, hkk⟩ := ev_get (impl_kidsOf_ev op)
  have HK := Aside0.mk hkk
  have HR1 := Aside0.mk hr1
  have HC1 := Aside0.mk hc1
  have HR2 := Aside0.mk hr2
  have HC2 := Aside0.mk hc2
  clear hkk hr1 hc1 hr2 hc2
  generalize kidsN op = ko at HK hk
  have hb0 : Below w.heap.size w ((w.alloc (.cells #[.int .i64 op, .slice A1 l1.length c1, .slice A2 l2.length c2, .int .i64 mi, .int .i64 ma] 156)).alloc (.cells #[.int .i64 place] 2)) := below_alloc (below_alloc (Below.refl _ _) _) _
  have hne : ((l2.length : Int) != ko) = false := bne_eq_false_iff_eq.2 hk
  clear hk
  go_enter Try.func119, Try.ntmps119
  go_wp2_with fail
  go_quiet (first | (go_at_call 152; refine (impl_kidsOf.calls _ _ _ _ HK.out).mono ?_; rintro e w' ⟨rfl, ⟨nd, rfl⟩⟩; first | exact ⟨rfl, _, World.drewN_drewN _ _ _⟩ | exact ⟨rfl, _, Eq.trans (World.drewN_drewN _ _ _) (congrArg (World.drewN _) (Nat.add_assoc _ _ _))⟩) | (go_at_call 153; refine (kids_calls place (by omega) (by omega) (w.heap.size + 1) _ ?hcl _ _ l2 ?hr _ hany).mono ?_; (case hcl => (go_simp; done)); (case hr => exact Kd.C_below HR2.out (by repeat (first | exact hb0 | apply pw_below_drewN | apply below_drew1))); rintro e w' ⟨rfl, ⟨nd, rfl⟩⟩; first | exact ⟨rfl, _, World.drewN_drewN _ _ _⟩ | exact ⟨rfl, _, Eq.trans (World.drewN_drewN _ _ _) (congrArg (World.drewN _) (Nat.add_assoc _ _ _))⟩))
  go_wp2_with fail
  go_ret
  exact ⟨rfl, by repeat (first | exact hb0 | apply pw_below_drewN | apply below_drew1)⟩
set_option maxHeartbeats 1000000 in
set_option maxRecDepth 100000 in
theorem nodeOk_times (op : Int) (A1 : Option Addr) (c1 : Nat) (l1 : List S103) (A2 : Option Addr) (c2 : Nat) (l2 : List Int) (mi ma place : Int) (w : World) (hp0 : 0 ≤ place) (hp1 : place ≤ 1000000) (hr1 : Kd.C k103 w A1 l1.length l1) (hc1 : l1.length ≤ c1) (hr2 : Kd.C (Kd.int .i64) w A2 l2.length l2) (hc2 : l2.length ≤ c2) (hk : (l2.length : Int) = kidsN op) (hany : Aside0 (l2.any (fun x => !decide (0 ≤ x ∧ x ≤ place - 1)) = false)) (h2 : (op == 2) = false) (h2' : (op != 2) = true) (he : decide (0 < l1.length) = false) (he' : decide (0 < (l1.length : Int)) = false) (h8 : (op == 8) = true) (r : Bool) (ht : impl_timesOk.f mi ma = some r) :
    Calls Try.prog 119 #[.agg #[.int .i64 op, .slice A1 l1.length c1, .slice A2 l2.length c2, .int .i64 mi, .int .i64 ma], .int .i64 place] w fun e w' => e = .returned (.bool r) ∧ Below w.heap.size w w' := by
  obtain ⟨kk, hkk⟩ := ev_get (impl_kidsOf_ev op)
  have HK := Aside0.mk hkk
  have HR1 := Aside0.mk hr1
  have HC1 := Aside0.mk hc1
  have HR2 := Aside0.mk hr2
  have HC2 := Aside0.mk hc2
  clear hkk hr1 hc1 hr2 hc2
  generalize kidsN op = ko at HK hk
  have hb0 : Below w.heap.size w ((w.alloc (.cells #[.int .i64 op, .slice A1 l1.length c1, .slice A2 l2.length c2, .int .i64 mi, .int .i64 ma] 156)).alloc (.cells #[.int .i64 place] 2)) := below_alloc (below_alloc (Below.refl _ _) _) _
  have hne : ((l2.length : Int) != ko) = false := bne_eq_false_iff_eq.2 hk
  clear hk
  have HT := Aside0.mk ht
  clear ht
  go_enter Try.func119, Try.ntmps119
  go_wp2_with fail
  go_quiet (first | (go_at_call 152; refine (impl_kidsOf.calls _ _ _ _ HK.out).mono ?_; rintro e w' ⟨rfl, ⟨nd, rfl⟩⟩; first | exact ⟨rfl, _, World.drewN_drewN _ _ _⟩ | exact ⟨rfl, _, Eq.trans (World.drewN_drewN _ _ _) (congrArg (World.drewN _) (Nat.add_assoc _ _ _))⟩) | (go_at_call 153; refine (kids_calls place (by omega) (by omega) (w.heap.size + 1) _ ?hcl _ _ l2 ?hr _ hany).mono ?_; (case hcl => (go_simp; done)); (case hr => exact Kd.C_below HR2.out (by repeat (first | exact hb0 | apply pw_below_drewN | apply below_drew1))); rintro e w' ⟨rfl, ⟨nd, rfl⟩⟩; first | exact ⟨rfl, _, World.drewN_drewN _ _ _⟩ | exact ⟨rfl, _, Eq.trans (World.drewN_drewN _ _ _) (congrArg (World.drewN _) (Nat.add_assoc _ _ _))⟩))
  go_wp2_with fail
  refine (impl_timesOk.calls mi ma r _ HT.out).mono ?_
  rintro e w' ⟨rfl, ⟨nd, rfl⟩⟩
  go_wp2_with fail
  go_ret
  exact ⟨rfl, by repeat (first | exact hb0 | apply pw_below_drewN | apply below_drew1)⟩
set_option maxHeartbeats 1000000 in
set_option maxRecDepth 100000 in
theorem nodeOk_rest0 (op : Int) (A1 : Option Addr) (c1 : Nat) (l1 : List S103) (A2 : Option Addr) (c2 : Nat) (l2 : List Int) (mi ma place : Int) (w : World) (hp0 : 0 ≤ place) (hp1 : place ≤ 1000000) (hr1 : Kd.C k103 w A1 l1.length l1) (hc1 : l1.length ≤ c1) (hr2 : Kd.C (Kd.int .i64) w A2 l2.length l2) (hc2 : l2.length ≤ c2) (hk : (l2.length : Int) = kidsN op) (hany : Aside0 (l2.any (fun x => !decide (0 ≤ x ∧ x ≤ place - 1)) = false)) (h2 : (op == 2) = false) (h2' : (op != 2) = true) (he : decide (0 < l1.length) = false) (he' : decide (0 < (l1.length : Int)) = false) (h8 : (op == 8) = false) (hmi : (mi == 0) = false) :
    Calls Try.prog 119 #[.agg #[.int .i64 op, .slice A1 l1.length c1, .slice A2 l2.length c2, .int .i64 mi, .int .i64 ma], .int .i64 place] w fun e w' => e = .returned (.bool false) ∧ Below w.heap.size w w' := by
  obtain ⟨kk, hkk⟩ := ev_get (impl_kidsOf_ev op)
  have HK := Aside0.mk hkk
  have HR1 := Aside0.mk hr1
  have HC1 := Aside0.mk hc1
  have HR2 := Aside0.mk hr2
  have HC2 := Aside0.mk hc2
  clear hkk hr1 hc1 hr2 hc2
  generalize kidsN op = ko at HK hk
  have hb0 : Below w.heap.size w ((w.alloc (.cells #[.int .i64 op, .slice A1 l1.length c1, .slice A2 l2.length c2, .int .i64 mi, .int .i64 ma] 156)).alloc (.cells #[.int .i64 place] 2)) := below_alloc (below_alloc (Below.refl _ _) _) _
  have hne : ((l2.length : Int) != ko) = false := bne_eq_false_iff_eq.2 hk
  clear hk
  go_enter Try.func119, Try.ntmps119
  go_wp2_with fail
  go_quiet (first | (go_at_call 152; refine (impl_kidsOf.calls _ _ _ _ HK.out).mono ?_; rintro e w' ⟨rfl, ⟨nd, rfl⟩⟩; first | exact ⟨rfl, _, World.drewN_drewN _ _ _⟩ | exact ⟨rfl, _, Eq.trans (World.drewN_drewN _ _ _) (congrArg (World.drewN _) (Nat.add_assoc _ _ _))⟩) | (go_at_call 153; refine (kids_calls place (by omega) (by omega) (w.heap.size + 1) _ ?hcl _ _ l2 ?hr _ hany).mono ?_; (case hcl => (go_simp; done)); (case hr => exact Kd.C_below HR2.out (by repeat (first | exact hb0 | apply pw_below_drewN | apply below_drew1))); rintro e w' ⟨rfl, ⟨nd, rfl⟩⟩; first | exact ⟨rfl, _, World.drewN_drewN _ _ _⟩ | exact ⟨rfl, _, Eq.trans (World.drewN_drewN _ _ _) (congrArg (World.drewN _) (Nat.add_assoc _ _ _))⟩))
  go_wp2_with fail
  go_ret
  exact ⟨rfl, by repeat (first | exact hb0 | apply pw_below_drewN | apply below_drew1)⟩
set_option maxHeartbeats 1000000 in
set_option maxRecDepth 100000 in
theorem nodeOk_rest1 (op : Int) (A1 : Option Addr) (c1 : Nat) (l1 : List S103) (A2 : Option Addr) (c2 : Nat) (l2 : List Int) (mi ma place : Int) (w : World) (hp0 : 0 ≤ place) (hp1 : place ≤ 1000000) (hr1 : Kd.C k103 w A1 l1.length l1) (hc1 : l1.length ≤ c1) (hr2 : Kd.C (Kd.int .i64) w A2 l2.length l2) (hc2 : l2.length ≤ c2) (hk : (l2.length : Int) = kidsN op) (hany : Aside0 (l2.any (fun x => !decide (0 ≤ x ∧ x ≤ place - 1)) = false)) (h2 : (op == 2) = false) (h2' : (op != 2) = true) (he : decide (0 < l1.length) = false) (he' : decide (0 < (l1.length : Int)) = false) (h8 : (op == 8) = false) (hmi : (mi == 0) = true) :
    Calls Try.prog 119 #[.agg #[.int .i64 op, .slice A1 l1.length c1, .slice A2 l2.length c2, .int .i64 mi, .int .i64 ma], .int .i64 place] w fun e w' => e = .returned (.bool (ma == 0)) ∧ Below w.heap.size w w' := by
  obtain ⟨kk, hkk⟩ := ev_get (impl_kidsOf_ev op)
  have HK := Aside0.mk hkk
  have HR1 := Aside0.mk hr1
  have HC1 := Aside0.mk hc1
  have HR2 := Aside0.mk hr2
  have HC2 := Aside0.mk hc2
  clear hkk hr1 hc1 hr2 hc2
  generalize kidsN op = ko at HK hk
  have hb0 : Below w.heap.size w ((w.alloc (.cells #[.int .i64 op, .slice A1 l1.length c1, .slice A2 l2.length c2, .int .i64 mi, .int .i64 ma] 156)).alloc (.cells #[.int .i64 place] 2)) := below_alloc (below_alloc (Below.refl _ _) _) _
  have hne : ((l2.length : Int) != ko) = false := bne_eq_false_iff_eq.2 hk
  clear hk
  go_enter Try.func119, Try.ntmps119
  go_wp2_with fail
  go_quiet (first | (go_at_call 152; refine (impl_kidsOf.calls _ _ _ _ HK.out).mono ?_; rintro e w' ⟨rfl, ⟨nd, rfl⟩⟩; first | exact ⟨rfl, _, World.drewN_drewN _ _ _⟩ | exact ⟨rfl, _, Eq.trans (World.drewN_drewN _ _ _) (congrArg (World.drewN _) (Nat.add_assoc _ _ _))⟩) | (go_at_call 153; refine (kids_calls place (by omega) (by omega) (w.heap.size + 1) _ ?hcl _ _ l2 ?hr _ hany).mono ?_; (case hcl => (go_simp; done)); (case hr => exact Kd.C_below HR2.out (by repeat (first | exact hb0 | apply pw_below_drewN | apply below_drew1))); rintro e w' ⟨rfl, ⟨nd, rfl⟩⟩; first | exact ⟨rfl, _, World.drewN_drewN _ _ _⟩ | exact ⟨rfl, _, Eq.trans (World.drewN_drewN _ _ _) (congrArg (World.drewN _) (Nat.add_assoc _ _ _))⟩))
  go_wp2_with fail
  go_ret
  exact ⟨rfl, by repeat (first | exact hb0 | apply pw_below_drewN | apply below_drew1)⟩
theorem nodeOk_hand (op : Int) (A1 : Option Addr) (c1 : Nat) (l1 : List S103) (A2 : Option Addr) (c2 : Nat) (l2 : List Int) (mi ma place : Int) (w : World) (hp0 : 0 ≤ place) (hp1 : place ≤ 1000000) (hr1 : Kd.C k103 w A1 l1.length l1) (hc1 : l1.length ≤ c1) (hr2 : Kd.C (Kd.int .i64) w A2 l2.length l2) (hc2 : l2.length ≤ c2) :
    Calls Try.prog 119 #[.agg #[.int .i64 op, .slice A1 l1.length c1, .slice A2 l2.length c2, .int .i64 mi, .int .i64 ma], .int .i64 place] w fun e w' => e = .returned (.bool (nodeB op l1 l2 mi ma place)) ∧ Below w.heap.size w w' := by
  unfold nodeB
  by_cases hk : (l2.length : Int) = kidsN op
  · rw [decide_eq_true hk, Bool.true_and]
    cases hany : l2.any (fun x => !decide (0 ≤ x ∧ x ≤ place - 1)) with
    | true => simpa using nodeOk_any op A1 c1 l1 A2 c2 l2 mi ma place w hp0 hp1 hr1 hc1 hr2 hc2 hk ⟨hany⟩
    | false =>
      rw [Bool.not_false, Bool.true_and]
      have HA := Aside0.mk hany
      by_cases h2 : op = 2
      · rw [if_pos h2, if_neg (by omega)]
        obtain ⟨kc, hkc⟩ := ev_get (impl_ClassOk_ev l1 hr1.2.1)
        cases hcl : classB l1 with
        | false =>
          rw [hcl] at hkc
          simpa using nodeOk_class op A1 c1 l1 A2 c2 l2 mi ma place w hp0 hp1 hr1 hc1 hr2 hc2 hk HA (beq_iff_eq.2 h2) (bne_eq_false_iff_eq.2 h2) kc hkc
        | true =>
          rw [hcl] at hkc
          by_cases he : l1.length = 0
          · rw [decide_eq_true he]
            simpa using nodeOk_bare op A1 c1 l1 A2 c2 l2 mi ma place w hp0 hp1 hr1 hc1 hr2 hc2 hk HA (beq_iff_eq.2 h2) (bne_eq_false_iff_eq.2 h2) kc hkc (beq_iff_eq.2 (by omega))
          · rw [decide_eq_false he]
            by_cases hmi : mi = 0
            · have := nodeOk_set1 op A1 c1 l1 A2 c2 l2 mi ma place w hp0 hp1 hr1 hc1 hr2 hc2 hk HA (beq_iff_eq.2 h2) (bne_eq_false_iff_eq.2 h2) kc hkc (beq_eq_false_iff_ne.2 (by omega)) (beq_eq_false_iff_ne.2 (by omega)) (beq_iff_eq.2 hmi)
              rw [show (ma == 0) = decide (ma = 0) from rfl] at this
              simpa [hmi] using this
            · have := nodeOk_set0 op A1 c1 l1 A2 c2 l2 mi ma place w hp0 hp1 hr1 hc1 hr2 hc2 hk HA (beq_iff_eq.2 h2) (bne_eq_false_iff_eq.2 h2) kc hkc (beq_eq_false_iff_ne.2 (by omega)) (beq_eq_false_iff_ne.2 (by omega)) (beq_eq_false_iff_ne.2 hmi)
              simpa [hmi] using this
      · rw [if_neg h2]
        have e2 := beq_eq_false_iff_ne.2 h2
        have n2 := bne_iff_ne.2 h2
        by_cases he : l1.length = 0
        · rw [decide_eq_true he, Bool.true_and]
          have d1 : decide (0 < l1.length) = false := decide_eq_false (by omega)
          have d2 : decide (0 < (l1.length : Int)) = false := decide_eq_false (by omega)
          by_cases h8 : op = 8
          · rw [if_pos h8]
            exact nodeOk_times op A1 c1 l1 A2 c2 l2 mi ma place w hp0 hp1 hr1 hc1 hr2 hc2 hk HA e2 n2 d1 d2 (beq_iff_eq.2 h8) _ (impl_timesOk_eq mi ma)
          · rw [if_neg h8]
            by_cases hmi : mi = 0
            · have := nodeOk_rest1 op A1 c1 l1 A2 c2 l2 mi ma place w hp0 hp1 hr1 hc1 hr2 hc2 hk HA e2 n2 d1 d2 (beq_eq_false_iff_ne.2 h8) (beq_iff_eq.2 hmi)
              rw [show (ma == 0) = decide (ma = 0) from rfl] at this
              simpa [hmi] using this
            · have := nodeOk_rest0 op A1 c1 l1 A2 c2 l2 mi ma place w hp0 hp1 hr1 hc1 hr2 hc2 hk HA e2 n2 d1 d2 (beq_eq_false_iff_ne.2 h8) (beq_eq_false_iff_ne.2 hmi)
              simpa [hmi] using this
        · rw [decide_eq_false he]
          simpa using nodeOk_full op A1 c1 l1 A2 c2 l2 mi ma place w hp0 hp1 hr1 hc1 hr2 hc2 hk HA e2 n2 (decide_eq_true (by omega)) (decide_eq_true (by omega))
  · rw [decide_eq_false hk]
    simpa using nodeOk_kids op A1 c1 l1 A2 c2 l2 mi ma place w hp0 hp1 hr1 hc1 hr2 hc2 hk
end Go.Proofs.Ytijmhelacmjggaa.P
namespace Go.Proofs.Ytijmhelacmjggaa.P
open Go.RowKit Go.Proofs.YtijmhelacmjggaaW.PrintWords Go.Proofs.YtijmhelacmjggaaW.PrintLast Go.Proofs.YtijmhelacmjggaaW.PrintMore
attribute [local go_sem] max2_int min2_int max_two min_two max_three min_three max_four min_four
set_option linter.unusedVariables false
set_option linter.unusedSimpArgs false
/-! ### impl_nodeOk: function 119 -/
def impl_nodeOk.f (a0_0 : Int) (l0_1 : List (S103)) (l0_2 : List Int) (a0_3 : Int) (a0_4 : Int) (a1 : Int) : Option (Bool) := if 0 ≤ a1 ∧ a1 ≤ 1000000 then some (nodeB a0_0 l0_1 l0_2 a0_3 a0_4 a1) else none
theorem impl_nodeOk.calls (a0_0 : Int) (A0_1 : Option Addr) (c0_1 : Nat) (l0_1 : List (S103)) (A0_2 : Option Addr) (c0_2 : Nat) (l0_2 : List Int) (a0_3 : Int) (a0_4 : Int) (a1 : Int) (r : Bool) (w : World) (hr0_1 : Kd.C k103 w A0_1 l0_1.length l0_1) (hc0_1 : l0_1.length ≤ c0_1) (hr0_2 : Kd.C (Kd.int .i64) w A0_2 l0_2.length l0_2) (hc0_2 : l0_2.length ≤ c0_2) (h : impl_nodeOk.f a0_0 l0_1 l0_2 a0_3 a0_4 a1 = some r) :
    Calls Try.prog 119 #[.agg #[.int .i64 a0_0, .slice A0_1 l0_1.length c0_1, .slice A0_2 l0_2.length c0_2, .int .i64 a0_3, .int .i64 a0_4], .int .i64 a1] w fun e w' => e = .returned (.bool r) ∧ Below w.heap.size w w' := by
  unfold impl_nodeOk.f at h
  by_cases hp : 0 ≤ a1 ∧ a1 ≤ 1000000
  · rw [if_pos hp] at h
    obtain rfl := Option.some.inj h
    exact nodeOk_hand a0_0 A0_1 c0_1 l0_1 A0_2 c0_2 l0_2 a0_3 a0_4 a1 w hp.1 hp.2 hr0_1 hc0_1 hr0_2 hc0_2
  · rw [if_neg hp] at h
    exact absurd h (by simp)
/-! ### impl_RxOk: function 62 -/
mutual
def impl_RxOk.l0 : Nat → Int → List Int → List Int → Int → List (S156) → Option (Bool)
 | 0, _, _, _, _, _ => none
 | k + 1, x3, x4, x5, x6, x102000 => if x6 ≥ 0 then (if 0 ≤ x6 then (if x6 < (x102000.length : Int) then ((impl_nodeOk.f ((rd_T156 x102000 x6).f0) ((rd_T156 x102000 x6).f1) ((rd_T156 x102000 x6).f2) ((rd_T156 x102000 x6).f3) ((rd_T156 x102000 x6).f4) x6).bind fun t113 => (if t113 = true then (if x6 < x3 then (if x6 < (x4.length : Int) then (if (rd x4 x6) = 1 then (if x6 < (x5.length : Int) then (impl_RxOk.j1 k x3 x4 x5 x6 (decide ((rd x5 x6) > 150)) x102000 ((rd_T156 x102000 x6).f0) ((rd_T156 x102000 x6).f1) ((rd_T156 x102000 x6).f2) ((rd_T156 x102000 x6).f3) ((rd_T156 x102000 x6).f4)) else (none)) else (impl_RxOk.j1 k x3 x4 x5 x6 true x102000 ((rd_T156 x102000 x6).f0) ((rd_T156 x102000 x6).f1) ((rd_T156 x102000 x6).f2) ((rd_T156 x102000 x6).f3) ((rd_T156 x102000 x6).f4))) else (none)) else (if x6 < (x5.length : Int) then (impl_RxOk.j1 k x3 x4 x5 x6 (decide ((rd x5 x6) > 150)) x102000 ((rd_T156 x102000 x6).f0) ((rd_T156 x102000 x6).f1) ((rd_T156 x102000 x6).f2) ((rd_T156 x102000 x6).f3) ((rd_T156 x102000 x6).f4)) else (none))) else (impl_RxOk.j1 k x3 x4 x5 x6 true x102000 ((rd_T156 x102000 x6).f0) ((rd_T156 x102000 x6).f1) ((rd_T156 x102000 x6).f2) ((rd_T156 x102000 x6).f3) ((rd_T156 x102000 x6).f4)))) else (none)) else (none)) else (if 0 ≤ x3 then (if x3 < (x4.length : Int) then (some ((rd x4 x3) == 0)) else (none)) else (none))
def impl_RxOk.j1 : Nat → Int → List Int → List Int → Int → Bool → List (S156) → Int → List (S103) → List Int → Int → Int → Option (Bool)
 | 0, _, _, _, _, _, _, _, _, _, _, _ => none
 | k + 1, x3, x4, x5, x6, x59, x102000, x113000, x113001, x113002, x113003, x113004 => if x59 = true then (some false) else (impl_RxOk.l1 k x3 x4 x5 x6 x113002 (x113002.length : Int) 0 x102000)
def impl_RxOk.l1 : Nat → Int → List Int → List Int → Int → List Int → Int → Int → List (S156) → Option (Bool)
 | 0, _, _, _, _, _, _, _, _ => none
 | k + 1, x3, x4, x5, x6, x61, x62, x63, x102000 => if x63 < x62 then (if 0 ≤ x63 then (if x63 < (x61.length : Int) then (if 0 ≤ (rd x61 x63) then (if (rd x61 x63) < (x4.length : Int) then (if 0 ≤ x6 then (if x6 < (x5.length : Int) then (if (rd x61 x63) < (x5.length : Int) then (impl_RxOk.l1 k x3 (x4.set ((rd x61 x63) : Int).toNat (wrap64 ((rd x4 (rd x61 x63)) + 1))) (x5.set ((rd x61 x63) : Int).toNat (wrap64 ((rd x5 x6) + 1))) x6 x61 x62 (wrap64 (x63 + 1)) x102000) else (none)) else (none)) else (none)) else (none)) else (none)) else (none)) else (none)) else (impl_RxOk.l0 k x3 x4 x5 (wrap64 (x6 - 1)) x102000)
end
def impl_RxOk.f (k : Nat) (l0_0 : List (S156)) : Option (Bool) := (impl_RNode.f l0_0).bind fun t102 => ((impl_within.f t102 1 300).bind fun t103 => (if t103 = true then (if 0 ≤ (l0_0.length : Int) then (if ((l0_0.length : Int) : Int).toNat ≤ 35184372088832 then (impl_RxOk.l0 k (wrap64 ((l0_0.length : Int) - 1)) (List.replicate ((l0_0.length : Int) : Int).toNat 0) (List.replicate ((l0_0.length : Int) : Int).toNat 0) (wrap64 ((l0_0.length : Int) - 1)) l0_0) else (none)) else (none)) else (some false)))
def impl_RxOk.T4 : Bool × List (List Nat × List Nat) := (true, [([], []), ([0], [0]), ([1], [1]), ([2, 2], [2]), ([], []), ([4], [4]), ([5], [5]), ([6, 6], [6]), ([3, 0, 1, 2, 3], [3]), ([7, 8, 0, 1, 2, 3, 4, 5, 6, 7, 8], [7])])
def impl_RxOk.B4 : List Nat := [0, 1, 3, 7, 0, 16, 48, 112, 15, 511]
theorem impl_RxOk.tab4 : rtab .any (opsOf Try.f62 4) = impl_RxOk.T4 := by kernel_rfl
theorem impl_RxOk.bits4 : waitsOk impl_RxOk.T4.2 impl_RxOk.B4 = true := by kernel_rfl
set_option maxHeartbeats 8000000 in
set_option maxRecDepth 100000 in
theorem impl_RxOk.calls (k : Nat) (A0_0 : Option Addr) (c0_0 : Nat) (l0_0 : List (S156)) (r : Bool) (w : World) (hr0_0 : Kd.C k156 w A0_0 l0_0.length l0_0) (hc0_0 : l0_0.length ≤ c0_0) (h : impl_RxOk.f k l0_0 = some r) :
  Calls Try.prog 62 #[.agg #[.slice A0_0 l0_0.length c0_0]] w fun e w' => e = .returned (.bool r) ∧ Below w.heap.size w w' := by
 have hu29 := Try.underlying29
 have hu156 := Try.underlying156
 have HR0_0 := Aside0.mk hr0_0
 have HC0_0 := Aside0.mk hc0_0
 clear hr0_0 hc0_0
 have HB := Aside0.mk (Below.refl w.heap.size w)
 have H : ((impl_RNode.f l0_0).bind fun t102 => ((impl_within.f t102 1 300).bind fun t103 => (if t103 = true then (if 0 ≤ (l0_0.length : Int) then (if ((l0_0.length : Int) : Int).toNat ≤ 35184372088832 then (impl_RxOk.l0 k (wrap64 ((l0_0.length : Int) - 1)) (List.replicate ((l0_0.length : Int) : Int).toNat 0) (List.replicate ((l0_0.length : Int) : Int).toNat 0) (wrap64 ((l0_0.length : Int) - 1)) l0_0) else (none)) else (none)) else (some false)))) = some r := h
 clear h
 obtain ⟨t102, A2, H⟩ := ob_ H
 obtain ⟨t103, A3, H⟩ := ob_ H
 by_cases c4 : t103 = true
 ·subst c4
  rw [if_pos rfl] at H
  by_cases c5 : 0 ≤ (l0_0.length : Int)
  ·rw [if_pos c5] at H
   have c5b0 := eq_true c5
   have c5b1 := decide_eq_true c5
   clear c5
   by_cases c6 : ((l0_0.length : Int) : Int).toNat ≤ 35184372088832
   ·rw [if_pos c6] at H
    have c6b0 := eq_true c6
    have c6b1 := decide_eq_true c6
    clear c6
    obtain ⟨y104, hy104⟩ : ∃ y_ : List Int, y_ = (List.replicate ((l0_0.length : Int) : Int).toNat 0) := ⟨_, rfl⟩
    replace H : (impl_RxOk.l0 k (wrap64 ((l0_0.length : Int) - 1)) y104 (List.replicate ((l0_0.length : Int) : Int).toNat 0) (wrap64 ((l0_0.length : Int) - 1)) l0_0) = some r := by first | (rw [hy104]; with_reducible exact H) | (have H2_ := (Option.bind_some _ _).symm.trans H; rw [hy104]; with_reducible exact H2_) | (have H2_ := (Option.bind_some _ _).symm.trans H; with_reducible exact H2_) | with_reducible exact H | (rw [hy104]; exact H) | exact H
    have Ny104 := Aside0.mk hy104
    clear hy104
    obtain ⟨y107, hy107⟩ : ∃ y_ : List Int, y_ = (List.replicate ((l0_0.length : Int) : Int).toNat 0) := ⟨_, rfl⟩
    replace H : (impl_RxOk.l0 k (wrap64 ((l0_0.length : Int) - 1)) y104 y107 (wrap64 ((l0_0.length : Int) - 1)) l0_0) = some r := by first | (rw [hy107]; with_reducible exact H) | (have H2_ := (Option.bind_some _ _).symm.trans H; rw [hy107]; with_reducible exact H2_) | (have H2_ := (Option.bind_some _ _).symm.trans H; with_reducible exact H2_) | with_reducible exact H | (rw [hy107]; exact H) | exact H
    have Ny107 := Aside0.mk hy107
    clear hy107
    have H' := Aside0.mk H
    clear H
    go_enter Try.func62, Try.ntmps62
    try go_wp2_with (first | ((with_reducible refine gate_dst (N := 1) rfl ?_); refine bx_ 1 #[.slice A0_0 l0_0.length c0_0] 29 ?_; intro gb101 hg w7 hbox hb; have BK101 := Aside0.mk (hbox); have GW101 := ge_ hg HB; have GE101 := GW101; replace HB := sb_ HB hb; clear hb hbox hg; obtain ⟨hcz8_0, hfz8_0⟩ := d1_ BK101) | ((with_reducible refine gate_callee (f := 118) rfl ?_); refine gl_ (some 12) rfl rfl Try.func118 #[.slice A0_0 l0_0.length c0_0] ?_; (with_reducible refine (impl_RNode.calls _ _ l0_0 t102 _ ?side1 ?side2 A2.out).mono ?_); (case side1 => exact Kd.C_below HR0_0.out (be_ HB.out)); (case side2 => exact HC0_0.out); rintro e w' ⟨rfl, ⟨nd, rfl⟩⟩; refine ⟨_, rfl, ?_⟩) | ((with_reducible refine gate_callee (f := 79) rfl ?_); refine gl_ (some 13) rfl rfl Try.func79 #[.int .i64 t102, .int .i64 1, .int .i64 300] ?_; (with_reducible refine (impl_within.calls t102 1 300 true _ A3.out).mono ?_); rintro e w' ⟨rfl, ⟨nd, rfl⟩⟩; refine ⟨_, rfl, ?_⟩))
    (try (rw [drewN_self w7]; generalize hq_ : World.drewN w7 _ = w7; have n0_ : Aside0 (w7.heap[gb101]? = some (.cells #[.slice A0_0 l0_0.length c0_0] 29 (0, 0))) := ⟨by rw [← hq_]; exact (bk_ BK101.out)⟩; have n1_ : Aside0 (Below w.heap.size w w7) := ⟨by rw [← hq_]; exact (be1_ HB.out GE101.out)⟩; clear BK101 HB hq_; have BK101 := n0_; have HB := n1_; clear n0_ n1_))
    replace BK101 := Aside0.mk (blk_drew BK101.out)
    replace HB := Aside0.mk (below_drew1 HB.out)
    refine start_ (n := 10) (S := fun w' => w'.cell? ⟨gb101, 0, none⟩ = some (.slice A0_0 l0_0.length c0_0)) (ds := []) #[false, false, false, false, false, false, false, false, false, false] (by kernel_rfl) rfl rfl ((blk_cell BK101.out 0).trans rfl) (fun hHeld => ?_); refine with_tabW impl_RxOk.tab4 impl_RxOk.bits4 (fun HT_ HW_ => ?_)
    generalize w7.drew = w9 at BK101 HB hHeld ⊢
    refine pu_ 0 (some 19) (bb 10 1) HT_.out ?_
    refine pu_ 4 (some 23) (bb 10 17) HT_.out ?_
    refine ta_ 1 (some 20) (bb 10 19) HT_.out HW_.out hHeld ?_
    refine pu_ 2 (some 21) (bb 10 23) HT_.out ?_
    refine ta_ 5 (some 24) (bb 10 55) HT_.out HW_.out hHeld ?_
    refine pu_ 6 (some 25) (bb 10 119) HT_.out ?_
    refine join_ (σ := Value × Value) 1 #[true, true, true, true, true, true, true, true, true, false] (fun s_ => [(22, s_.1), (26, s_.2), (4, s_.1)]) (fun s_ w' => (w'.cell? ⟨gb101, 0, none⟩ = some (.slice A0_0 l0_0.length c0_0)) ∧ (Kd.R (Kd.int .i64) 3 w' w.heap.size (fun k_ => some k_ ≠ (s_.2 : Value).ownBlock) s_.1 y104) ∧ (Kd.R (Kd.int .i64) 3 w' w.heap.size (fun k_ => some k_ ≠ (s_.1 : Value).ownBlock) s_.2 y107) ∧ (w'.heap[gb101]? = some (.cells #[.slice A0_0 l0_0.length c0_0] 29 (0, 0))) ∧ (Below w.heap.size w w')) ?_ ?_
    rotate_left
    ·intro hCont
     refine two_ (i := 3) (j := 7) (Ni := some 22) (Nj := some 26) #[true, true, true, true, true, true, true, false, false, false] #[true, true, true, false, true, true, true, true, false, false] rfl rfl rfl rfl (two_of HT_.out (by kernel_rfl)) (by decide) (by decide) (fun K hK => ?_) (fun K hK => ?_)
     ·skip
      refine Kd.R_make_step (Kd.int .i64) _ 3 (by rfl) (N := 22) rfl 153 _ _ rfl (l0_0.length : Int) rfl rfl Try.underlying153 (.int .i64 0) 8 info3 rfl (by decide) (by omega) 0 (ok := fun _ => True) (okp := fun _ => True) rfl (fun _ hk => hk) trivial (of_decide_eq_true as_) (Nat.le_trans (Nat.mul_le_mul_right _ (of_decide_eq_true as_ : (l0_0.length : Int).toNat ≤ 35184372088832)) (by omega)) (Below.refl _ _) (Nat.le_refl _) ?_
      intro v105 w10 ho11 hb hg_ hnew_
      clear hg_ hnew_
      (first | rw [← Ny104.out] at ho11 | (simp only [Int.reduceToNat] at ho11; rw [← Ny104.out] at ho11))
      have HO106 := Aside0.mk (Kd.R_lower ho11 (below_size (be1_ HB.out GE101.out)))
      replace BK101 := lb_ BK101 hb
      replace HB := sb1_ HB GE101 hb
      clear hb ho11
      refine hK.out _ _ ((blk_cell BK101.out 0).trans rfl) (fun hHeld => ?_)
      clear hK K
      refine no_ (some 22) ?_
      refine pu_ 8 (some 4) (bb 10 383) HT_.out ?_
      refine one_ (i := 7) (N := some 26) (bb 10 511) rfl rfl (one_of HT_.out (by kernel_rfl)) (by decide) (fun K hK => ?_)
      refine Kd.R_make_step (Kd.int .i64) _ 3 (by rfl) (N := 26) rfl 153 _ _ rfl (l0_0.length : Int) rfl rfl Try.underlying153 (.int .i64 0) 8 info3 rfl (by decide) (by omega) 0 (ok := fun _ => True) (okp := fun _ => True) rfl (fun _ hk => hk) trivial (of_decide_eq_true as_) (Nat.le_trans (Nat.mul_le_mul_right _ (of_decide_eq_true as_ : (l0_0.length : Int).toNat ≤ 35184372088832)) (by omega)) (Below.refl _ _) (Nat.le_refl _) ?_
      intro v108 w12 ho13 hb hg_ hnew_
      clear hg_ hnew_
      (first | rw [← Ny107.out] at ho13 | (simp only [Int.reduceToNat] at ho13; rw [← Ny107.out] at ho13))
      have HO109 := Aside0.mk (Kd.R_lower (Kd.R_new' ho13 (Kd.R_lt (ra_ HO106.out))) (below_size (be1_ HB.out GE101.out)))
      replace HO106 := Aside0.mk (Kd.R_elder' (ra_ HO106.out) (Kd.R_base ho13) hb)
      replace BK101 := lb_ BK101 hb
      replace HB := sb1_ HB GE101 hb
      clear hb ho13
      refine hK.out _ _ ((blk_cell BK101.out 0).trans rfl) (fun hHeld => ?_)
      clear hK K
      refine no_ (some 26) ?_
      exact norm_ (by simp only [putAll, Act.put, List.setIfInBounds_toArray, List.set_cons_zero, List.set_cons_succ]) (hCont (v105, v108) _ ⟨hHeld, (by (with_reducible repeat (first | apply Kd.R_alloc | apply Kd.R_drewN | apply Kd.R_drew)); exact Kd.R_mono HO106.out (fun _ hk => hk.2)), (by (with_reducible repeat (first | apply Kd.R_alloc | apply Kd.R_drewN | apply Kd.R_drew)); exact Kd.R_mono HO109.out (fun _ hk => hk.2)), (bk_ BK101.out), (be1_ HB.out GE101.out)⟩)
     ·skip
      refine Kd.R_make_step (Kd.int .i64) _ 3 (by rfl) (N := 26) rfl 153 _ _ rfl (l0_0.length : Int) rfl rfl Try.underlying153 (.int .i64 0) 8 info3 rfl (by decide) (by omega) 0 (ok := fun _ => True) (okp := fun _ => True) rfl (fun _ hk => hk) trivial (of_decide_eq_true as_) (Nat.le_trans (Nat.mul_le_mul_right _ (of_decide_eq_true as_ : (l0_0.length : Int).toNat ≤ 35184372088832)) (by omega)) (Below.refl _ _) (Nat.le_refl _) ?_
      intro v108 w10 ho11 hb hg_ hnew_
      clear hg_ hnew_
      (first | rw [← Ny107.out] at ho11 | (simp only [Int.reduceToNat] at ho11; rw [← Ny107.out] at ho11))
      have HO109 := Aside0.mk (Kd.R_lower ho11 (below_size (be1_ HB.out GE101.out)))
      replace BK101 := lb_ BK101 hb
      replace HB := sb1_ HB GE101 hb
      clear hb ho11
      refine hK.out _ _ ((blk_cell BK101.out 0).trans rfl) (fun hHeld => ?_)
      clear hK K
      refine no_ (some 26) ?_
      refine one_ (i := 3) (N := some 22) (bb 10 255) rfl rfl (one_of HT_.out (by kernel_rfl)) (by decide) (fun K hK => ?_)
      refine Kd.R_make_step (Kd.int .i64) _ 3 (by rfl) (N := 22) rfl 153 _ _ rfl (l0_0.length : Int) rfl rfl Try.underlying153 (.int .i64 0) 8 info3 rfl (by decide) (by omega) 0 (ok := fun _ => True) (okp := fun _ => True) rfl (fun _ hk => hk) trivial (of_decide_eq_true as_) (Nat.le_trans (Nat.mul_le_mul_right _ (of_decide_eq_true as_ : (l0_0.length : Int).toNat ≤ 35184372088832)) (by omega)) (Below.refl _ _) (Nat.le_refl _) ?_
      intro v105 w12 ho13 hb hg_ hnew_
      clear hg_ hnew_
      (first | rw [← Ny104.out] at ho13 | (simp only [Int.reduceToNat] at ho13; rw [← Ny104.out] at ho13))
      have HO106 := Aside0.mk (Kd.R_lower (Kd.R_new' ho13 (Kd.R_lt (ra_ HO109.out))) (below_size (be1_ HB.out GE101.out)))
      replace HO109 := Aside0.mk (Kd.R_elder' (ra_ HO109.out) (Kd.R_base ho13) hb)
      replace BK101 := lb_ BK101 hb
      replace HB := sb1_ HB GE101 hb
      clear hb ho13
      refine hK.out _ _ ((blk_cell BK101.out 0).trans rfl) (fun hHeld => ?_)
      clear hK K
      refine no_ (some 22) ?_
      refine pu_ 8 (some 4) (bb 10 511) HT_.out ?_
      exact norm_ (by simp only [putAll, Act.put, List.setIfInBounds_toArray, List.set_cons_zero, List.set_cons_succ]) (hCont (v105, v108) _ ⟨hHeld, (by (with_reducible repeat (first | apply Kd.R_alloc | apply Kd.R_drewN | apply Kd.R_drew)); exact Kd.R_mono HO106.out (fun _ hk => hk.2)), (by (with_reducible repeat (first | apply Kd.R_alloc | apply Kd.R_drewN | apply Kd.R_drew)); exact Kd.R_mono HO109.out (fun _ hk => hk.2)), (bk_ BK101.out), (be1_ HB.out GE101.out)⟩)
    rintro ⟨v105, v108⟩ w14 ⟨hS_, h0_, h1_, h2_, h3_⟩
    have n0_ : Aside0 (Kd.R (Kd.int .i64) 3 w14 w.heap.size (fun k_ => some k_ ≠ (v108 : Value).ownBlock) v105 y104) := ⟨h0_⟩
    have n1_ : Aside0 (Kd.R (Kd.int .i64) 3 w14 w.heap.size (fun k_ => some k_ ≠ (v105 : Value).ownBlock) v108 y107) := ⟨h1_⟩
    have n2_ : Aside0 (w14.heap[gb101]? = some (.cells #[.slice A0_0 l0_0.length c0_0] 29 (0, 0))) := ⟨h2_⟩
    have n3_ : Aside0 (Below w.heap.size w w14) := ⟨h3_⟩
    clear BK101
    clear HB
    clear h0_ h1_ h2_ h3_
    have HO106 := n0_
    have HO109 := n1_
    have BK101 := n2_
    have HB := n3_
    clear n0_ n1_ n2_ n3_
    have hHeld : w14.cell? ⟨gb101, 0, none⟩ = some (.slice A0_0 l0_0.length c0_0) := hS_
    refine norm_ (a' := ?_) ?_ ?_
    rotate_left
    ·simp only [putAll, Act.put, List.setIfInBounds_toArray, List.set_cons_zero, List.set_cons_succ]
     rfl
    refine pu_ 9 (some 5) (bb 10 1023) HT_.out ?_
    refine done_ (done_of HT_.out (by kernel_rfl)) ?_
    try go_wp2
    go_loopg [6] k (fun kq v6 w' => ∃ (x4_1 : List Int) (x5_1 : List Int) (x6_1 : Int), v6 = .int .i64 x6_1 ∧ Aside0 (impl_RxOk.l0 kq (wrap64 ((l0_0.length : Int) - 1)) x4_1 x5_1 x6_1 l0_0 = some r) ∧ Aside0 (kq ≤ k) ∧ Aside0 (Kd.R (Kd.int .i64) 3 w' w.heap.size (fun k_ => some k_ ≠ (v108 : Value).ownBlock) v105 x4_1) ∧ Aside0 (Kd.R (Kd.int .i64) 3 w' w.heap.size (fun k_ => some k_ ≠ (v105 : Value).ownBlock) v108 x5_1) ∧ Aside0 (w'.heap[gb101]? = some (.cells #[(.slice A0_0 l0_0.length c0_0)] 29 (0, 0))) ∧ Aside0 (Below w.heap.size w w'))
    case atStart => exact ⟨(y104), (y107), (wrap64 ((l0_0.length : Int) - 1)), rs_, H', ⟨Nat.le_refl _⟩, ⟨ra_ HO106.out⟩, ⟨ra_ HO109.out⟩, ⟨bk_ BK101.out⟩, ⟨be1_ HB.out GE101.out⟩⟩
    case round =>
     clear H'
     try clear c4
     try clear c5
     try clear c5b0
     try clear c5b1
     try clear c6
     try clear c6b0
     try clear c6b1
     try clear hcz8_0
     try clear hfz8_0
     obtain ⟨x4_1, x5_1, x6_1, rfl, HA, HK1, HO_4, HO_5, BK101, HB⟩ := hrel
     cases gk with
     | zero => exact absurd HA.out (by simp [impl_RxOk.l0])
     | succ k1 =>
      have H := HA.out
      clear HA
      simp only [impl_RxOk.l0] at H
      by_cases c15 : x6_1 ≥ 0
      ·rw [if_pos c15] at H
       have c15b0 : decide (0 ≤ x6_1) = true := decide_eq_true c15
       clear c15
       by_cases c16 : 0 ≤ x6_1
       ·rw [if_pos c16] at H
        have c16b0 := decide_eq_true c16
        clear c16
        by_cases c17 : x6_1 < (l0_0.length : Int)
        ·rw [if_pos c17] at H
         have c17b0 := decide_eq_true c17
         clear c17
         have HC18 := Aside0.mk H
         clear H
         obtain ⟨hcz19_0, hfz19_0⟩ := d1_ BK101
         have p111 : 0 ≤ (x6_1 : Int) := of_decide_eq_true as_
         have q111 : x6_1 < (l0_0.length : Int) := of_decide_eq_true as_
         obtain ⟨ad111, A111_1, c111_1, A111_2, c111_2, e111, hx111_0, hx111_1, hx111_2, hx111_3, hx111_4, hl111_1, hi111_1, hl111_2, hi111_2⟩ := at_T156 HR0_0.out x6_1 p111 q111
         cases e111
         replace hx111_0 := mv_ HB.out hx111_0
         replace hx111_1 := mv_ HB.out hx111_1
         replace hx111_2 := mv_ HB.out hx111_2
         replace hx111_3 := mv_ HB.out hx111_3
         replace hx111_4 := mv_ HB.out hx111_4
         have HR111_1 := Aside0.mk hi111_1
         have HC111_1 := Aside0.mk hl111_1
         clear hi111_1 hl111_1
         have HR111_2 := Aside0.mk hi111_2
         have HC111_2 := Aside0.mk hl111_2
         clear hi111_2 hl111_2
         replace p111 := eq_true p111
         replace q111 := eq_true q111
         go_upto_region 9 with (((with_reducible refine gate_dst (N := 7) rfl ?_); refine bx_ 7 #[.int .i64 0, .slice none 0 0, .slice none 0 0, .int .i64 0, .int .i64 0] 156 ?_; intro gb112 hg w20 hbox hb; have BK112 := Aside0.mk (hbox); have GW112 := ge1_ hg HB GE101; have GE112 := GW112; have NB101_112 := nl_ hg BK101; have NB112_101 := ng_ hg BK101; replace HO_4 := Aside0.mk (Kd.R_below (ra_ HO_4.out) hb); replace HO_5 := Aside0.mk (Kd.R_below (ra_ HO_5.out) hb); replace BK101 := lb_ BK101 hb; replace HB := sb1_ HB GE101 hb; clear hb hbox hg; have hnb21 := NB112_101.out; have hnc21 := NB101_112.out; obtain ⟨hcz22_0, hcz22_1, hcz22_2, hcz22_3, hcz22_4, hfz22_0, hfz22_1, hfz22_2, hfz22_3, hfz22_4⟩ := d5_ BK112))
         (try simp only [Act.put, List.setIfInBounds_toArray, List.set_cons_zero, List.set_cons_succ])
         go_cut [59] (fun v59 wc => ∃ (kq : Nat) (x59_17 : Bool), v59 = .bool x59_17 ∧ Aside0 (impl_RxOk.j1 kq (wrap64 ((l0_0.length : Int) - 1)) x4_1 x5_1 x6_1 x59_17 l0_0 ((rd_T156 l0_0 x6_1).f0) ((rd_T156 l0_0 x6_1).f1) ((rd_T156 l0_0 x6_1).f2) ((rd_T156 l0_0 x6_1).f3) ((rd_T156 l0_0 x6_1).f4) = some r) ∧ Aside0 (kq ≤ k1) ∧ Aside0 (Kd.R (Kd.int .i64) 3 wc w.heap.size (fun k_ => some k_ ≠ (v108 : Value).ownBlock) v105 x4_1) ∧ Aside0 (Kd.R (Kd.int .i64) 3 wc w.heap.size (fun k_ => some k_ ≠ (v105 : Value).ownBlock) v108 x5_1) ∧ Aside0 (wc.heap[gb101]? = some (.cells #[(.slice (some ad111) l0_0.length c0_0)] 29 (0, 0))) ∧ Aside0 (wc.heap[gb112]? = some (.cells #[.int .i64 ((rd_T156 l0_0 x6_1).f0), (.slice A111_1 ((rd_T156 l0_0 x6_1).f1).length c111_1), (.slice A111_2 ((rd_T156 l0_0 x6_1).f2).length c111_2), .int .i64 ((rd_T156 l0_0 x6_1).f3), .int .i64 ((rd_T156 l0_0 x6_1).f4)] 156 (0, 0))) ∧ Aside0 (Below w.heap.size w wc))
         case first =>
          have H := HC18.out
          clear HC18
          obtain ⟨t113, A23, H⟩ := ob_ H
          by_cases c24 : t113 = true
          ·subst c24
           rw [if_pos rfl] at H
           by_cases c25 : x6_1 < (wrap64 ((l0_0.length : Int) - 1))
           ·rw [if_pos c25] at H
            have c25b0 := decide_eq_true c25
            clear c25
            (first | rw [c25b0] | (simp only [i64_w, i32_w]; rw [c25b0]) | skip)
            by_cases c26 : x6_1 < (x4_1.length : Int)
            ·rw [if_pos c26] at H
             have c26b0 := decide_eq_true c26
             clear c26
             by_cases c27 : (rd x4_1 x6_1) = 1
             ·rw [if_pos c27] at H
              have c27b0 : ((rd x4_1 x6_1) == 1) = true := beq_iff_eq.mpr c27
              have c27b1 : ((rd x4_1 x6_1) != 1) = false := bne_eq_false_iff_eq.mpr c27
              clear c27
              by_cases c28 : x6_1 < (x5_1.length : Int)
              ·rw [if_pos c28] at H
               have c28b0 := decide_eq_true c28
               clear c28
               have H' := Aside0.mk H
               clear H
               have hnb29 := NB112_101.out
               have hnc29 := NB101_112.out
               obtain ⟨hcz30_0, hcz30_1, hcz30_2, hcz30_3, hcz30_4, hfz30_0, hfz30_1, hfz30_2, hfz30_3, hfz30_4⟩ := d5_ BK112
               go_wp2_with (((with_reducible refine gate_callee (f := 119) rfl ?_); refine gl_ (some 39) rfl rfl Try.func119 #[.agg #[.int .i64 ((rd_T156 l0_0 x6_1).f0), .slice A111_1 ((rd_T156 l0_0 x6_1).f1).length c111_1, .slice A111_2 ((rd_T156 l0_0 x6_1).f2).length c111_2, .int .i64 ((rd_T156 l0_0 x6_1).f3), .int .i64 ((rd_T156 l0_0 x6_1).f4)], .int .i64 x6_1] ?_; (with_reducible refine (impl_nodeOk.calls ((rd_T156 l0_0 x6_1).f0) _ _ ((rd_T156 l0_0 x6_1).f1) _ _ ((rd_T156 l0_0 x6_1).f2) ((rd_T156 l0_0 x6_1).f3) ((rd_T156 l0_0 x6_1).f4) x6_1 true _ ?side1 ?side2 ?side3 ?side4 A23.out).mono ?_); (case side1 => exact Kd.C_below HR111_1.out (be2_ HB.out GE101.out GE112.out)); (case side2 => exact HC111_1.out); (case side3 => exact Kd.C_below HR111_2.out (be2_ HB.out GE101.out GE112.out)); (case side4 => exact HC111_2.out); rintro e w31 ⟨rfl, hb⟩; refine ⟨_, rfl, ?_⟩; replace HO_4 := Aside0.mk (Kd.R_below (by (with_reducible repeat (first | apply Kd.R_alloc | apply Kd.R_drewN | apply Kd.R_drew)); exact (Kd.R_mono (Kd.R_far (p := ⟨gb112, 4, none⟩) (Kd.R_far (p := ⟨gb112, 3, none⟩) (Kd.R_far (p := ⟨gb112, 2, none⟩) (Kd.R_far (p := ⟨gb112, 1, none⟩) (Kd.R_far (p := ⟨gb112, 0, none⟩) (Kd.R_types HO_4.out BK112.out (by decide)) (fun _ hk => hk.2) (.int .i64 ((rd_T156 l0_0 x6_1).f0))) (fun _ hk => hk.2) (.slice A111_1 ((rd_T156 l0_0 x6_1).f1).length c111_1)) (fun _ hk => hk.2) (.slice A111_2 ((rd_T156 l0_0 x6_1).f2).length c111_2)) (fun _ hk => hk.2) (.int .i64 ((rd_T156 l0_0 x6_1).f3))) (fun _ hk => hk.2) (.int .i64 ((rd_T156 l0_0 x6_1).f4))) (fun _ h_ => h_.1))) hb); replace HO_5 := Aside0.mk (Kd.R_below (by (with_reducible repeat (first | apply Kd.R_alloc | apply Kd.R_drewN | apply Kd.R_drew)); exact (Kd.R_mono (Kd.R_far (p := ⟨gb112, 4, none⟩) (Kd.R_far (p := ⟨gb112, 3, none⟩) (Kd.R_far (p := ⟨gb112, 2, none⟩) (Kd.R_far (p := ⟨gb112, 1, none⟩) (Kd.R_far (p := ⟨gb112, 0, none⟩) (Kd.R_types HO_5.out BK112.out (by decide)) (fun _ hk => hk.2) (.int .i64 ((rd_T156 l0_0 x6_1).f0))) (fun _ hk => hk.2) (.slice A111_1 ((rd_T156 l0_0 x6_1).f1).length c111_1)) (fun _ hk => hk.2) (.slice A111_2 ((rd_T156 l0_0 x6_1).f2).length c111_2)) (fun _ hk => hk.2) (.int .i64 ((rd_T156 l0_0 x6_1).f3))) (fun _ hk => hk.2) (.int .i64 ((rd_T156 l0_0 x6_1).f4))) (fun _ h_ => h_.1))) hb); replace BK101 := Aside0.mk (blk_below (g := gb101) (o := .cells #[.slice (some ad111) l0_0.length c0_0] 29 (0, 0)) (by (with_reducible repeat (first | refine blk_drewN ?_ _ | refine blk_drew ?_ | refine blk_alloc ?_ _)); refine blk_far ?_ NB101_112.out _; (with_reducible repeat (first | refine blk_drewN ?_ _ | refine blk_drew ?_ | refine blk_alloc ?_ _)); refine blk_far ?_ NB101_112.out _; (with_reducible repeat (first | refine blk_drewN ?_ _ | refine blk_drew ?_ | refine blk_alloc ?_ _)); refine blk_far ?_ NB101_112.out _; (with_reducible repeat (first | refine blk_drewN ?_ _ | refine blk_drew ?_ | refine blk_alloc ?_ _)); refine blk_far ?_ NB101_112.out _; (with_reducible repeat (first | refine blk_drewN ?_ _ | refine blk_drew ?_ | refine blk_alloc ?_ _)); refine blk_far ?_ NB101_112.out _; (with_reducible repeat (first | refine blk_drewN ?_ _ | refine blk_drew ?_ | refine blk_alloc ?_ _)); exact BK101.out) hb); replace BK112 := Aside0.mk (blk_below (g := gb112) (o := .cells #[.int .i64 ((rd_T156 l0_0 x6_1).f0), .slice A111_1 ((rd_T156 l0_0 x6_1).f1).length c111_1, .slice A111_2 ((rd_T156 l0_0 x6_1).f2).length c111_2, .int .i64 ((rd_T156 l0_0 x6_1).f3), .int .i64 ((rd_T156 l0_0 x6_1).f4)] 156 (0, 0)) (by (with_reducible repeat (first | refine blk_drewN ?_ _ | refine blk_drew ?_ | refine blk_alloc ?_ _)); refine blk_put (cs := #[.int .i64 ((rd_T156 l0_0 x6_1).f0), .slice A111_1 ((rd_T156 l0_0 x6_1).f1).length c111_1, .slice A111_2 ((rd_T156 l0_0 x6_1).f2).length c111_2, .int .i64 ((rd_T156 l0_0 x6_1).f3), .int .i64 0]) ?_ 4 _ rfl; (with_reducible repeat (first | refine blk_drewN ?_ _ | refine blk_drew ?_ | refine blk_alloc ?_ _)); refine blk_put (cs := #[.int .i64 ((rd_T156 l0_0 x6_1).f0), .slice A111_1 ((rd_T156 l0_0 x6_1).f1).length c111_1, .slice A111_2 ((rd_T156 l0_0 x6_1).f2).length c111_2, .int .i64 0, .int .i64 0]) ?_ 3 _ rfl; (with_reducible repeat (first | refine blk_drewN ?_ _ | refine blk_drew ?_ | refine blk_alloc ?_ _)); refine blk_put (cs := #[.int .i64 ((rd_T156 l0_0 x6_1).f0), .slice A111_1 ((rd_T156 l0_0 x6_1).f1).length c111_1, .slice none 0 0, .int .i64 0, .int .i64 0]) ?_ 2 _ rfl; (with_reducible repeat (first | refine blk_drewN ?_ _ | refine blk_drew ?_ | refine blk_alloc ?_ _)); refine blk_put (cs := #[.int .i64 ((rd_T156 l0_0 x6_1).f0), .slice none 0 0, .slice none 0 0, .int .i64 0, .int .i64 0]) ?_ 1 _ rfl; (with_reducible repeat (first | refine blk_drewN ?_ _ | refine blk_drew ?_ | refine blk_alloc ?_ _)); refine blk_put (cs := #[.int .i64 0, .slice none 0 0, .slice none 0 0, .int .i64 0, .int .i64 0]) ?_ 0 _ rfl; (with_reducible repeat (first | refine blk_drewN ?_ _ | refine blk_drew ?_ | refine blk_alloc ?_ _)); exact BK112.out) hb); replace HB := sb2_ HB GE101 GE112 hb; (try clear hb); obtain ⟨Ao32, co32, eo32⟩ := Kd.R_slice HO_4.out; subst eo32; have p114 : 0 ≤ (x6_1 : Int) := of_decide_eq_true as_; have q114 : x6_1 < (x4_1.length : Int) := of_decide_eq_true as_; obtain ⟨ad114, e114, hx114_0⟩ := Kd.at_int (Kd.R_reads' HO_4.out).2.2 x6_1 p114 q114; cases e114; replace p114 := eq_true p114; replace q114 := eq_true q114; obtain ⟨Ao33, co33, eo33⟩ := Kd.R_slice HO_5.out; subst eo33; have p115 : 0 ≤ (x6_1 : Int) := of_decide_eq_true as_; have q115 : x6_1 < (x5_1.length : Int) := of_decide_eq_true as_; obtain ⟨ad115, e115, hx115_0⟩ := Kd.at_int (Kd.R_reads' HO_5.out).2.2 x6_1 p115 q115; cases e115; replace p115 := eq_true p115; replace q115 := eq_true q115))
               go_meet
               case rel => exact ⟨_, (decide ((rd x5_1 x6_1) > 150)), rs_, H', ⟨by have := HK1.out; first | omega | exact Nat.le_refl _⟩, ⟨ra_ HO_4.out⟩, ⟨ra_ HO_5.out⟩, ⟨bk_ BK101.out⟩, ⟨bk_ BK112.out⟩, ⟨be2_ HB.out GE101.out GE112.out⟩⟩
              ·rw [if_neg c28] at H
               exact absurd H (by simp)
             ·rw [if_neg c27] at H
              have c27b0 : ((rd x4_1 x6_1) == 1) = false := beq_eq_false_iff_ne.mpr c27
              have c27b1 : ((rd x4_1 x6_1) != 1) = true := bne_iff_ne.mpr c27
              have H' := Aside0.mk H
              clear H
              have hnb34 := NB112_101.out
              have hnc34 := NB101_112.out
              obtain ⟨hcz35_0, hcz35_1, hcz35_2, hcz35_3, hcz35_4, hfz35_0, hfz35_1, hfz35_2, hfz35_3, hfz35_4⟩ := d5_ BK112
              go_wp2_with (((with_reducible refine gate_callee (f := 119) rfl ?_); refine gl_ (some 39) rfl rfl Try.func119 #[.agg #[.int .i64 ((rd_T156 l0_0 x6_1).f0), .slice A111_1 ((rd_T156 l0_0 x6_1).f1).length c111_1, .slice A111_2 ((rd_T156 l0_0 x6_1).f2).length c111_2, .int .i64 ((rd_T156 l0_0 x6_1).f3), .int .i64 ((rd_T156 l0_0 x6_1).f4)], .int .i64 x6_1] ?_; (with_reducible refine (impl_nodeOk.calls ((rd_T156 l0_0 x6_1).f0) _ _ ((rd_T156 l0_0 x6_1).f1) _ _ ((rd_T156 l0_0 x6_1).f2) ((rd_T156 l0_0 x6_1).f3) ((rd_T156 l0_0 x6_1).f4) x6_1 true _ ?side1 ?side2 ?side3 ?side4 A23.out).mono ?_); (case side1 => exact Kd.C_below HR111_1.out (be2_ HB.out GE101.out GE112.out)); (case side2 => exact HC111_1.out); (case side3 => exact Kd.C_below HR111_2.out (be2_ HB.out GE101.out GE112.out)); (case side4 => exact HC111_2.out); rintro e w36 ⟨rfl, hb⟩; refine ⟨_, rfl, ?_⟩; replace HO_4 := Aside0.mk (Kd.R_below (by (with_reducible repeat (first | apply Kd.R_alloc | apply Kd.R_drewN | apply Kd.R_drew)); exact (Kd.R_mono (Kd.R_far (p := ⟨gb112, 4, none⟩) (Kd.R_far (p := ⟨gb112, 3, none⟩) (Kd.R_far (p := ⟨gb112, 2, none⟩) (Kd.R_far (p := ⟨gb112, 1, none⟩) (Kd.R_far (p := ⟨gb112, 0, none⟩) (Kd.R_types HO_4.out BK112.out (by decide)) (fun _ hk => hk.2) (.int .i64 ((rd_T156 l0_0 x6_1).f0))) (fun _ hk => hk.2) (.slice A111_1 ((rd_T156 l0_0 x6_1).f1).length c111_1)) (fun _ hk => hk.2) (.slice A111_2 ((rd_T156 l0_0 x6_1).f2).length c111_2)) (fun _ hk => hk.2) (.int .i64 ((rd_T156 l0_0 x6_1).f3))) (fun _ hk => hk.2) (.int .i64 ((rd_T156 l0_0 x6_1).f4))) (fun _ h_ => h_.1))) hb); replace HO_5 := Aside0.mk (Kd.R_below (by (with_reducible repeat (first | apply Kd.R_alloc | apply Kd.R_drewN | apply Kd.R_drew)); exact (Kd.R_mono (Kd.R_far (p := ⟨gb112, 4, none⟩) (Kd.R_far (p := ⟨gb112, 3, none⟩) (Kd.R_far (p := ⟨gb112, 2, none⟩) (Kd.R_far (p := ⟨gb112, 1, none⟩) (Kd.R_far (p := ⟨gb112, 0, none⟩) (Kd.R_types HO_5.out BK112.out (by decide)) (fun _ hk => hk.2) (.int .i64 ((rd_T156 l0_0 x6_1).f0))) (fun _ hk => hk.2) (.slice A111_1 ((rd_T156 l0_0 x6_1).f1).length c111_1)) (fun _ hk => hk.2) (.slice A111_2 ((rd_T156 l0_0 x6_1).f2).length c111_2)) (fun _ hk => hk.2) (.int .i64 ((rd_T156 l0_0 x6_1).f3))) (fun _ hk => hk.2) (.int .i64 ((rd_T156 l0_0 x6_1).f4))) (fun _ h_ => h_.1))) hb); replace BK101 := Aside0.mk (blk_below (g := gb101) (o := .cells #[.slice (some ad111) l0_0.length c0_0] 29 (0, 0)) (by (with_reducible repeat (first | refine blk_drewN ?_ _ | refine blk_drew ?_ | refine blk_alloc ?_ _)); refine blk_far ?_ NB101_112.out _; (with_reducible repeat (first | refine blk_drewN ?_ _ | refine blk_drew ?_ | refine blk_alloc ?_ _)); refine blk_far ?_ NB101_112.out _; (with_reducible repeat (first | refine blk_drewN ?_ _ | refine blk_drew ?_ | refine blk_alloc ?_ _)); refine blk_far ?_ NB101_112.out _; (with_reducible repeat (first | refine blk_drewN ?_ _ | refine blk_drew ?_ | refine blk_alloc ?_ _)); refine blk_far ?_ NB101_112.out _; (with_reducible repeat (first | refine blk_drewN ?_ _ | refine blk_drew ?_ | refine blk_alloc ?_ _)); refine blk_far ?_ NB101_112.out _; (with_reducible repeat (first | refine blk_drewN ?_ _ | refine blk_drew ?_ | refine blk_alloc ?_ _)); exact BK101.out) hb); replace BK112 := Aside0.mk (blk_below (g := gb112) (o := .cells #[.int .i64 ((rd_T156 l0_0 x6_1).f0), .slice A111_1 ((rd_T156 l0_0 x6_1).f1).length c111_1, .slice A111_2 ((rd_T156 l0_0 x6_1).f2).length c111_2, .int .i64 ((rd_T156 l0_0 x6_1).f3), .int .i64 ((rd_T156 l0_0 x6_1).f4)] 156 (0, 0)) (by (with_reducible repeat (first | refine blk_drewN ?_ _ | refine blk_drew ?_ | refine blk_alloc ?_ _)); refine blk_put (cs := #[.int .i64 ((rd_T156 l0_0 x6_1).f0), .slice A111_1 ((rd_T156 l0_0 x6_1).f1).length c111_1, .slice A111_2 ((rd_T156 l0_0 x6_1).f2).length c111_2, .int .i64 ((rd_T156 l0_0 x6_1).f3), .int .i64 0]) ?_ 4 _ rfl; (with_reducible repeat (first | refine blk_drewN ?_ _ | refine blk_drew ?_ | refine blk_alloc ?_ _)); refine blk_put (cs := #[.int .i64 ((rd_T156 l0_0 x6_1).f0), .slice A111_1 ((rd_T156 l0_0 x6_1).f1).length c111_1, .slice A111_2 ((rd_T156 l0_0 x6_1).f2).length c111_2, .int .i64 0, .int .i64 0]) ?_ 3 _ rfl; (with_reducible repeat (first | refine blk_drewN ?_ _ | refine blk_drew ?_ | refine blk_alloc ?_ _)); refine blk_put (cs := #[.int .i64 ((rd_T156 l0_0 x6_1).f0), .slice A111_1 ((rd_T156 l0_0 x6_1).f1).length c111_1, .slice none 0 0, .int .i64 0, .int .i64 0]) ?_ 2 _ rfl; (with_reducible repeat (first | refine blk_drewN ?_ _ | refine blk_drew ?_ | refine blk_alloc ?_ _)); refine blk_put (cs := #[.int .i64 ((rd_T156 l0_0 x6_1).f0), .slice none 0 0, .slice none 0 0, .int .i64 0, .int .i64 0]) ?_ 1 _ rfl; (with_reducible repeat (first | refine blk_drewN ?_ _ | refine blk_drew ?_ | refine blk_alloc ?_ _)); refine blk_put (cs := #[.int .i64 0, .slice none 0 0, .slice none 0 0, .int .i64 0, .int .i64 0]) ?_ 0 _ rfl; (with_reducible repeat (first | refine blk_drewN ?_ _ | refine blk_drew ?_ | refine blk_alloc ?_ _)); exact BK112.out) hb); replace HB := sb2_ HB GE101 GE112 hb; (try clear hb); obtain ⟨Ao37, co37, eo37⟩ := Kd.R_slice HO_4.out; subst eo37; have p114 : 0 ≤ (x6_1 : Int) := of_decide_eq_true as_; have q114 : x6_1 < (x4_1.length : Int) := of_decide_eq_true as_; obtain ⟨ad114, e114, hx114_0⟩ := Kd.at_int (Kd.R_reads' HO_4.out).2.2 x6_1 p114 q114; cases e114; replace p114 := eq_true p114; replace q114 := eq_true q114))
              go_meet
              case rel => exact ⟨_, (true), rs_, H', ⟨by have := HK1.out; first | omega | exact Nat.le_refl _⟩, ⟨ra_ HO_4.out⟩, ⟨ra_ HO_5.out⟩, ⟨bk_ BK101.out⟩, ⟨bk_ BK112.out⟩, ⟨be2_ HB.out GE101.out GE112.out⟩⟩
            ·rw [if_neg c26] at H
             exact absurd H (by simp)
           ·rw [if_neg c25] at H
            have c25b0 := decide_eq_false c25
            clear c25
            (first | rw [c25b0] | (simp only [i64_w, i32_w]; rw [c25b0]) | skip)
            by_cases c38 : x6_1 < (x5_1.length : Int)
            ·rw [if_pos c38] at H
             have c38b0 := decide_eq_true c38
             clear c38
             have H' := Aside0.mk H
             clear H
             have hnb39 := NB112_101.out
             have hnc39 := NB101_112.out
             obtain ⟨hcz40_0, hcz40_1, hcz40_2, hcz40_3, hcz40_4, hfz40_0, hfz40_1, hfz40_2, hfz40_3, hfz40_4⟩ := d5_ BK112
             go_wp2_with (((with_reducible refine gate_callee (f := 119) rfl ?_); refine gl_ (some 39) rfl rfl Try.func119 #[.agg #[.int .i64 ((rd_T156 l0_0 x6_1).f0), .slice A111_1 ((rd_T156 l0_0 x6_1).f1).length c111_1, .slice A111_2 ((rd_T156 l0_0 x6_1).f2).length c111_2, .int .i64 ((rd_T156 l0_0 x6_1).f3), .int .i64 ((rd_T156 l0_0 x6_1).f4)], .int .i64 x6_1] ?_; (with_reducible refine (impl_nodeOk.calls ((rd_T156 l0_0 x6_1).f0) _ _ ((rd_T156 l0_0 x6_1).f1) _ _ ((rd_T156 l0_0 x6_1).f2) ((rd_T156 l0_0 x6_1).f3) ((rd_T156 l0_0 x6_1).f4) x6_1 true _ ?side1 ?side2 ?side3 ?side4 A23.out).mono ?_); (case side1 => exact Kd.C_below HR111_1.out (be2_ HB.out GE101.out GE112.out)); (case side2 => exact HC111_1.out); (case side3 => exact Kd.C_below HR111_2.out (be2_ HB.out GE101.out GE112.out)); (case side4 => exact HC111_2.out); rintro e w41 ⟨rfl, hb⟩; refine ⟨_, rfl, ?_⟩; replace HO_4 := Aside0.mk (Kd.R_below (by (with_reducible repeat (first | apply Kd.R_alloc | apply Kd.R_drewN | apply Kd.R_drew)); exact (Kd.R_mono (Kd.R_far (p := ⟨gb112, 4, none⟩) (Kd.R_far (p := ⟨gb112, 3, none⟩) (Kd.R_far (p := ⟨gb112, 2, none⟩) (Kd.R_far (p := ⟨gb112, 1, none⟩) (Kd.R_far (p := ⟨gb112, 0, none⟩) (Kd.R_types HO_4.out BK112.out (by decide)) (fun _ hk => hk.2) (.int .i64 ((rd_T156 l0_0 x6_1).f0))) (fun _ hk => hk.2) (.slice A111_1 ((rd_T156 l0_0 x6_1).f1).length c111_1)) (fun _ hk => hk.2) (.slice A111_2 ((rd_T156 l0_0 x6_1).f2).length c111_2)) (fun _ hk => hk.2) (.int .i64 ((rd_T156 l0_0 x6_1).f3))) (fun _ hk => hk.2) (.int .i64 ((rd_T156 l0_0 x6_1).f4))) (fun _ h_ => h_.1))) hb); replace HO_5 := Aside0.mk (Kd.R_below (by (with_reducible repeat (first | apply Kd.R_alloc | apply Kd.R_drewN | apply Kd.R_drew)); exact (Kd.R_mono (Kd.R_far (p := ⟨gb112, 4, none⟩) (Kd.R_far (p := ⟨gb112, 3, none⟩) (Kd.R_far (p := ⟨gb112, 2, none⟩) (Kd.R_far (p := ⟨gb112, 1, none⟩) (Kd.R_far (p := ⟨gb112, 0, none⟩) (Kd.R_types HO_5.out BK112.out (by decide)) (fun _ hk => hk.2) (.int .i64 ((rd_T156 l0_0 x6_1).f0))) (fun _ hk => hk.2) (.slice A111_1 ((rd_T156 l0_0 x6_1).f1).length c111_1)) (fun _ hk => hk.2) (.slice A111_2 ((rd_T156 l0_0 x6_1).f2).length c111_2)) (fun _ hk => hk.2) (.int .i64 ((rd_T156 l0_0 x6_1).f3))) (fun _ hk => hk.2) (.int .i64 ((rd_T156 l0_0 x6_1).f4))) (fun _ h_ => h_.1))) hb); replace BK101 := Aside0.mk (blk_below (g := gb101) (o := .cells #[.slice (some ad111) l0_0.length c0_0] 29 (0, 0)) (by (with_reducible repeat (first | refine blk_drewN ?_ _ | refine blk_drew ?_ | refine blk_alloc ?_ _)); refine blk_far ?_ NB101_112.out _; (with_reducible repeat (first | refine blk_drewN ?_ _ | refine blk_drew ?_ | refine blk_alloc ?_ _)); refine blk_far ?_ NB101_112.out _; (with_reducible repeat (first | refine blk_drewN ?_ _ | refine blk_drew ?_ | refine blk_alloc ?_ _)); refine blk_far ?_ NB101_112.out _; (with_reducible repeat (first | refine blk_drewN ?_ _ | refine blk_drew ?_ | refine blk_alloc ?_ _)); refine blk_far ?_ NB101_112.out _; (with_reducible repeat (first | refine blk_drewN ?_ _ | refine blk_drew ?_ | refine blk_alloc ?_ _)); refine blk_far ?_ NB101_112.out _; (with_reducible repeat (first | refine blk_drewN ?_ _ | refine blk_drew ?_ | refine blk_alloc ?_ _)); exact BK101.out) hb); replace BK112 := Aside0.mk (blk_below (g := gb112) (o := .cells #[.int .i64 ((rd_T156 l0_0 x6_1).f0), .slice A111_1 ((rd_T156 l0_0 x6_1).f1).length c111_1, .slice A111_2 ((rd_T156 l0_0 x6_1).f2).length c111_2, .int .i64 ((rd_T156 l0_0 x6_1).f3), .int .i64 ((rd_T156 l0_0 x6_1).f4)] 156 (0, 0)) (by (with_reducible repeat (first | refine blk_drewN ?_ _ | refine blk_drew ?_ | refine blk_alloc ?_ _)); refine blk_put (cs := #[.int .i64 ((rd_T156 l0_0 x6_1).f0), .slice A111_1 ((rd_T156 l0_0 x6_1).f1).length c111_1, .slice A111_2 ((rd_T156 l0_0 x6_1).f2).length c111_2, .int .i64 ((rd_T156 l0_0 x6_1).f3), .int .i64 0]) ?_ 4 _ rfl; (with_reducible repeat (first | refine blk_drewN ?_ _ | refine blk_drew ?_ | refine blk_alloc ?_ _)); refine blk_put (cs := #[.int .i64 ((rd_T156 l0_0 x6_1).f0), .slice A111_1 ((rd_T156 l0_0 x6_1).f1).length c111_1, .slice A111_2 ((rd_T156 l0_0 x6_1).f2).length c111_2, .int .i64 0, .int .i64 0]) ?_ 3 _ rfl; (with_reducible repeat (first | refine blk_drewN ?_ _ | refine blk_drew ?_ | refine blk_alloc ?_ _)); refine blk_put (cs := #[.int .i64 ((rd_T156 l0_0 x6_1).f0), .slice A111_1 ((rd_T156 l0_0 x6_1).f1).length c111_1, .slice none 0 0, .int .i64 0, .int .i64 0]) ?_ 2 _ rfl; (with_reducible repeat (first | refine blk_drewN ?_ _ | refine blk_drew ?_ | refine blk_alloc ?_ _)); refine blk_put (cs := #[.int .i64 ((rd_T156 l0_0 x6_1).f0), .slice none 0 0, .slice none 0 0, .int .i64 0, .int .i64 0]) ?_ 1 _ rfl; (with_reducible repeat (first | refine blk_drewN ?_ _ | refine blk_drew ?_ | refine blk_alloc ?_ _)); refine blk_put (cs := #[.int .i64 0, .slice none 0 0, .slice none 0 0, .int .i64 0, .int .i64 0]) ?_ 0 _ rfl; (with_reducible repeat (first | refine blk_drewN ?_ _ | refine blk_drew ?_ | refine blk_alloc ?_ _)); exact BK112.out) hb); replace HB := sb2_ HB GE101 GE112 hb; (try clear hb); obtain ⟨Ao42, co42, eo42⟩ := Kd.R_slice HO_5.out; subst eo42; have p116 : 0 ≤ (x6_1 : Int) := of_decide_eq_true as_; have q116 : x6_1 < (x5_1.length : Int) := of_decide_eq_true as_; obtain ⟨ad116, e116, hx116_0⟩ := Kd.at_int (Kd.R_reads' HO_5.out).2.2 x6_1 p116 q116; cases e116; replace p116 := eq_true p116; replace q116 := eq_true q116))
             go_meet
             case rel => exact ⟨_, (decide ((rd x5_1 x6_1) > 150)), rs_, H', ⟨by have := HK1.out; first | omega | exact Nat.le_refl _⟩, ⟨ra_ HO_4.out⟩, ⟨ra_ HO_5.out⟩, ⟨bk_ BK101.out⟩, ⟨bk_ BK112.out⟩, ⟨be2_ HB.out GE101.out GE112.out⟩⟩
            ·rw [if_neg c38] at H
             exact absurd H (by simp)
          ·replace c24 := Bool.eq_false_iff.mpr c24
           subst c24
           rw [if_neg nft_] at H
           have H' := Aside0.mk H
           clear H
           have hnb43 := NB112_101.out
           have hnc43 := NB101_112.out
           obtain ⟨hcz44_0, hcz44_1, hcz44_2, hcz44_3, hcz44_4, hfz44_0, hfz44_1, hfz44_2, hfz44_3, hfz44_4⟩ := d5_ BK112
           go_wp2_with (((with_reducible refine gate_callee (f := 119) rfl ?_); refine gl_ (some 39) rfl rfl Try.func119 #[.agg #[.int .i64 ((rd_T156 l0_0 x6_1).f0), .slice A111_1 ((rd_T156 l0_0 x6_1).f1).length c111_1, .slice A111_2 ((rd_T156 l0_0 x6_1).f2).length c111_2, .int .i64 ((rd_T156 l0_0 x6_1).f3), .int .i64 ((rd_T156 l0_0 x6_1).f4)], .int .i64 x6_1] ?_; (with_reducible refine (impl_nodeOk.calls ((rd_T156 l0_0 x6_1).f0) _ _ ((rd_T156 l0_0 x6_1).f1) _ _ ((rd_T156 l0_0 x6_1).f2) ((rd_T156 l0_0 x6_1).f3) ((rd_T156 l0_0 x6_1).f4) x6_1 false _ ?side1 ?side2 ?side3 ?side4 A23.out).mono ?_); (case side1 => exact Kd.C_below HR111_1.out (be2_ HB.out GE101.out GE112.out)); (case side2 => exact HC111_1.out); (case side3 => exact Kd.C_below HR111_2.out (be2_ HB.out GE101.out GE112.out)); (case side4 => exact HC111_2.out); rintro e w45 ⟨rfl, hb⟩; refine ⟨_, rfl, ?_⟩; replace HO_4 := Aside0.mk (Kd.R_below (by (with_reducible repeat (first | apply Kd.R_alloc | apply Kd.R_drewN | apply Kd.R_drew)); exact (Kd.R_mono (Kd.R_far (p := ⟨gb112, 4, none⟩) (Kd.R_far (p := ⟨gb112, 3, none⟩) (Kd.R_far (p := ⟨gb112, 2, none⟩) (Kd.R_far (p := ⟨gb112, 1, none⟩) (Kd.R_far (p := ⟨gb112, 0, none⟩) (Kd.R_types HO_4.out BK112.out (by decide)) (fun _ hk => hk.2) (.int .i64 ((rd_T156 l0_0 x6_1).f0))) (fun _ hk => hk.2) (.slice A111_1 ((rd_T156 l0_0 x6_1).f1).length c111_1)) (fun _ hk => hk.2) (.slice A111_2 ((rd_T156 l0_0 x6_1).f2).length c111_2)) (fun _ hk => hk.2) (.int .i64 ((rd_T156 l0_0 x6_1).f3))) (fun _ hk => hk.2) (.int .i64 ((rd_T156 l0_0 x6_1).f4))) (fun _ h_ => h_.1))) hb); replace HO_5 := Aside0.mk (Kd.R_below (by (with_reducible repeat (first | apply Kd.R_alloc | apply Kd.R_drewN | apply Kd.R_drew)); exact (Kd.R_mono (Kd.R_far (p := ⟨gb112, 4, none⟩) (Kd.R_far (p := ⟨gb112, 3, none⟩) (Kd.R_far (p := ⟨gb112, 2, none⟩) (Kd.R_far (p := ⟨gb112, 1, none⟩) (Kd.R_far (p := ⟨gb112, 0, none⟩) (Kd.R_types HO_5.out BK112.out (by decide)) (fun _ hk => hk.2) (.int .i64 ((rd_T156 l0_0 x6_1).f0))) (fun _ hk => hk.2) (.slice A111_1 ((rd_T156 l0_0 x6_1).f1).length c111_1)) (fun _ hk => hk.2) (.slice A111_2 ((rd_T156 l0_0 x6_1).f2).length c111_2)) (fun _ hk => hk.2) (.int .i64 ((rd_T156 l0_0 x6_1).f3))) (fun _ hk => hk.2) (.int .i64 ((rd_T156 l0_0 x6_1).f4))) (fun _ h_ => h_.1))) hb); replace BK101 := Aside0.mk (blk_below (g := gb101) (o := .cells #[.slice (some ad111) l0_0.length c0_0] 29 (0, 0)) (by (with_reducible repeat (first | refine blk_drewN ?_ _ | refine blk_drew ?_ | refine blk_alloc ?_ _)); refine blk_far ?_ NB101_112.out _; (with_reducible repeat (first | refine blk_drewN ?_ _ | refine blk_drew ?_ | refine blk_alloc ?_ _)); refine blk_far ?_ NB101_112.out _; (with_reducible repeat (first | refine blk_drewN ?_ _ | refine blk_drew ?_ | refine blk_alloc ?_ _)); refine blk_far ?_ NB101_112.out _; (with_reducible repeat (first | refine blk_drewN ?_ _ | refine blk_drew ?_ | refine blk_alloc ?_ _)); refine blk_far ?_ NB101_112.out _; (with_reducible repeat (first | refine blk_drewN ?_ _ | refine blk_drew ?_ | refine blk_alloc ?_ _)); refine blk_far ?_ NB101_112.out _; (with_reducible repeat (first | refine blk_drewN ?_ _ | refine blk_drew ?_ | refine blk_alloc ?_ _)); exact BK101.out) hb); replace BK112 := Aside0.mk (blk_below (g := gb112) (o := .cells #[.int .i64 ((rd_T156 l0_0 x6_1).f0), .slice A111_1 ((rd_T156 l0_0 x6_1).f1).length c111_1, .slice A111_2 ((rd_T156 l0_0 x6_1).f2).length c111_2, .int .i64 ((rd_T156 l0_0 x6_1).f3), .int .i64 ((rd_T156 l0_0 x6_1).f4)] 156 (0, 0)) (by (with_reducible repeat (first | refine blk_drewN ?_ _ | refine blk_drew ?_ | refine blk_alloc ?_ _)); refine blk_put (cs := #[.int .i64 ((rd_T156 l0_0 x6_1).f0), .slice A111_1 ((rd_T156 l0_0 x6_1).f1).length c111_1, .slice A111_2 ((rd_T156 l0_0 x6_1).f2).length c111_2, .int .i64 ((rd_T156 l0_0 x6_1).f3), .int .i64 0]) ?_ 4 _ rfl; (with_reducible repeat (first | refine blk_drewN ?_ _ | refine blk_drew ?_ | refine blk_alloc ?_ _)); refine blk_put (cs := #[.int .i64 ((rd_T156 l0_0 x6_1).f0), .slice A111_1 ((rd_T156 l0_0 x6_1).f1).length c111_1, .slice A111_2 ((rd_T156 l0_0 x6_1).f2).length c111_2, .int .i64 0, .int .i64 0]) ?_ 3 _ rfl; (with_reducible repeat (first | refine blk_drewN ?_ _ | refine blk_drew ?_ | refine blk_alloc ?_ _)); refine blk_put (cs := #[.int .i64 ((rd_T156 l0_0 x6_1).f0), .slice A111_1 ((rd_T156 l0_0 x6_1).f1).length c111_1, .slice none 0 0, .int .i64 0, .int .i64 0]) ?_ 2 _ rfl; (with_reducible repeat (first | refine blk_drewN ?_ _ | refine blk_drew ?_ | refine blk_alloc ?_ _)); refine blk_put (cs := #[.int .i64 ((rd_T156 l0_0 x6_1).f0), .slice none 0 0, .slice none 0 0, .int .i64 0, .int .i64 0]) ?_ 1 _ rfl; (with_reducible repeat (first | refine blk_drewN ?_ _ | refine blk_drew ?_ | refine blk_alloc ?_ _)); refine blk_put (cs := #[.int .i64 0, .slice none 0 0, .slice none 0 0, .int .i64 0, .int .i64 0]) ?_ 0 _ rfl; (with_reducible repeat (first | refine blk_drewN ?_ _ | refine blk_drew ?_ | refine blk_alloc ?_ _)); exact BK112.out) hb); replace HB := sb2_ HB GE101 GE112 hb; (try clear hb)))
           go_meet
           case rel => exact ⟨_, (true), rs_, H', ⟨by have := HK1.out; first | omega | exact Nat.le_refl _⟩, ⟨ra_ HO_4.out⟩, ⟨ra_ HO_5.out⟩, ⟨bk_ BK101.out⟩, ⟨bk_ BK112.out⟩, ⟨be2_ HB.out GE101.out GE112.out⟩⟩
         case rest =>
          clear HC18
          try clear c4
          try clear c5
          try clear c5b0
          try clear c5b1
          try clear c6
          try clear c6b0
          try clear c6b1
          try clear c15
          try clear c15b0
          try clear c16
          try clear c16b0
          try clear c17
          try clear c17b0
          try clear c24
          try clear c25
          try clear c25b0
          try clear c26
          try clear c26b0
          try clear c27
          try clear c27b0
          try clear c27b1
          try clear c28
          try clear c28b0
          try clear c38
          try clear c38b0
          try clear hcz19_0
          try clear hcz22_0
          try clear hcz22_1
          try clear hcz22_2
          try clear hcz22_3
          try clear hcz22_4
          try clear hcz30_0
          try clear hcz30_1
          try clear hcz30_2
          try clear hcz30_3
          try clear hcz30_4
          try clear hcz35_0
          try clear hcz35_1
          try clear hcz35_2
          try clear hcz35_3
          try clear hcz35_4
          try clear hcz40_0
          try clear hcz40_1
          try clear hcz40_2
          try clear hcz40_3
          try clear hcz40_4
          try clear hcz44_0
          try clear hcz44_1
          try clear hcz44_2
          try clear hcz44_3
          try clear hcz44_4
          try clear hcz8_0
          try clear hfz19_0
          try clear hfz22_0
          try clear hfz22_1
          try clear hfz22_2
          try clear hfz22_3
          try clear hfz22_4
          try clear hfz30_0
          try clear hfz30_1
          try clear hfz30_2
          try clear hfz30_3
          try clear hfz30_4
          try clear hfz35_0
          try clear hfz35_1
          try clear hfz35_2
          try clear hfz35_3
          try clear hfz35_4
          try clear hfz40_0
          try clear hfz40_1
          try clear hfz40_2
          try clear hfz40_3
          try clear hfz40_4
          try clear hfz44_0
          try clear hfz44_1
          try clear hfz44_2
          try clear hfz44_3
          try clear hfz44_4
          try clear hfz8_0
          try clear hx111_0
          try clear hx111_1
          try clear hx111_2
          try clear hx111_3
          try clear hx111_4
          try clear hx114_0
          try clear hx115_0
          try clear hx116_0
          try clear p111
          try clear p114
          try clear p115
          try clear p116
          try clear q111
          try clear q114
          try clear q115
          try clear q116
          obtain ⟨kq, x59_17, rfl, HA, HJ17, HO_4, HO_5, BK101, BK112, HB⟩ := hcut
          cases kq with
          | zero => exact absurd HA.out (by simp [impl_RxOk.j1])
          | succ kj17 =>
           have H := HA.out
           clear HA
           simp only [impl_RxOk.j1] at H
           by_cases c46 : x59_17 = true
           ·subst c46
            rw [if_pos rfl] at H
            obtain rfl := Option.some.inj H
            go_wp2
            go_ret
            exact ⟨rt_, be2_ HB.out GE101.out GE112.out⟩
           ·replace c46 := Bool.eq_false_iff.mpr c46
            subst c46
            rw [if_neg nft_] at H
            have H' := Aside0.mk H
            clear H
            have hnb47 := NB112_101.out
            have hnc47 := NB101_112.out
            obtain ⟨hcz48_0, hcz48_1, hcz48_2, hcz48_3, hcz48_4, hfz48_0, hfz48_1, hfz48_2, hfz48_3, hfz48_4⟩ := d5_ BK112
            go_wp2
            go_loopg [63] kj17 (fun kq v63 w' => ∃ (x4_3 : List Int) (x5_3 : List Int) (x63_3 : Int), v63 = .int .i64 x63_3 ∧ Aside0 (impl_RxOk.l1 kq (wrap64 ((l0_0.length : Int) - 1)) x4_3 x5_3 x6_1 ((rd_T156 l0_0 x6_1).f2) (((rd_T156 l0_0 x6_1).f2).length : Int) x63_3 l0_0 = some r) ∧ Aside0 (kq ≤ kj17) ∧ Aside0 (Kd.R (Kd.int .i64) 3 w' w.heap.size (fun k_ => some k_ ≠ (v108 : Value).ownBlock) v105 x4_3) ∧ Aside0 (Kd.R (Kd.int .i64) 3 w' w.heap.size (fun k_ => some k_ ≠ (v105 : Value).ownBlock) v108 x5_3) ∧ Aside0 (w'.heap[gb101]? = some (.cells #[(.slice (some ad111) l0_0.length c0_0)] 29 (0, 0))) ∧ Aside0 (w'.heap[gb112]? = some (.cells #[.int .i64 ((rd_T156 l0_0 x6_1).f0), (.slice A111_1 ((rd_T156 l0_0 x6_1).f1).length c111_1), (.slice A111_2 ((rd_T156 l0_0 x6_1).f2).length c111_2), .int .i64 ((rd_T156 l0_0 x6_1).f3), .int .i64 ((rd_T156 l0_0 x6_1).f4)] 156 (0, 0))) ∧ Aside0 (Below w.heap.size w w'))
            case atStart => exact ⟨(x4_1), (x5_1), (0), rs_, H', ⟨Nat.le_refl _⟩, ⟨ra_ HO_4.out⟩, ⟨ra_ HO_5.out⟩, ⟨bk_ BK101.out⟩, ⟨bk_ BK112.out⟩, ⟨be2_ HB.out GE101.out GE112.out⟩⟩
            case round =>
             clear H'
             try clear c4
             try clear c5
             try clear c5b0
             try clear c5b1
             try clear c6
             try clear c6b0
             try clear c6b1
             try clear c15
             try clear c15b0
             try clear c16
             try clear c16b0
             try clear c17
             try clear c17b0
             try clear c24
             try clear c25
             try clear c25b0
             try clear c26
             try clear c26b0
             try clear c27
             try clear c27b0
             try clear c27b1
             try clear c28
             try clear c28b0
             try clear c38
             try clear c38b0
             try clear c46
             try clear hcz19_0
             try clear hcz22_0
             try clear hcz22_1
             try clear hcz22_2
             try clear hcz22_3
             try clear hcz22_4
             try clear hcz30_0
             try clear hcz30_1
             try clear hcz30_2
             try clear hcz30_3
             try clear hcz30_4
             try clear hcz35_0
             try clear hcz35_1
             try clear hcz35_2
             try clear hcz35_3
             try clear hcz35_4
             try clear hcz40_0
             try clear hcz40_1
             try clear hcz40_2
             try clear hcz40_3
             try clear hcz40_4
             try clear hcz44_0
             try clear hcz44_1
             try clear hcz44_2
             try clear hcz44_3
             try clear hcz44_4
             try clear hcz48_0
             try clear hcz48_1
             try clear hcz48_2
             try clear hcz48_3
             try clear hcz48_4
             try clear hcz8_0
             try clear hfz19_0
             try clear hfz22_0
             try clear hfz22_1
             try clear hfz22_2
             try clear hfz22_3
             try clear hfz22_4
             try clear hfz30_0
             try clear hfz30_1
             try clear hfz30_2
             try clear hfz30_3
             try clear hfz30_4
             try clear hfz35_0
             try clear hfz35_1
             try clear hfz35_2
             try clear hfz35_3
             try clear hfz35_4
             try clear hfz40_0
             try clear hfz40_1
             try clear hfz40_2
             try clear hfz40_3
             try clear hfz40_4
             try clear hfz44_0
             try clear hfz44_1
             try clear hfz44_2
             try clear hfz44_3
             try clear hfz44_4
             try clear hfz48_0
             try clear hfz48_1
             try clear hfz48_2
             try clear hfz48_3
             try clear hfz48_4
             try clear hfz8_0
             try clear hx111_0
             try clear hx111_1
             try clear hx111_2
             try clear hx111_3
             try clear hx111_4
             try clear hx114_0
             try clear hx115_0
             try clear hx116_0
             try clear p111
             try clear p114
             try clear p115
             try clear p116
             try clear q111
             try clear q114
             try clear q115
             try clear q116
             obtain ⟨x4_3, x5_3, x63_3, rfl, HA, HK3, HO_4, HO_5, BK101, BK112, HB⟩ := hrel
             cases gk with
             | zero => exact absurd HA.out (by simp [impl_RxOk.l1])
             | succ k3 =>
              have H := HA.out
              clear HA
              simp only [impl_RxOk.l1] at H
              by_cases c49 : x63_3 < (((rd_T156 l0_0 x6_1).f2).length : Int)
              ·rw [if_pos c49] at H
               have c49b0 := decide_eq_true c49
               clear c49
               by_cases c50 : 0 ≤ x63_3
               ·rw [if_pos c50] at H
                have c50b0 := decide_eq_true c50
                clear c50
                by_cases c51 : x63_3 < (((rd_T156 l0_0 x6_1).f2).length : Int)
                ·rw [if_pos c51] at H
                 have c51b0 := decide_eq_true c51
                 clear c51
                 by_cases c52 : 0 ≤ (rd ((rd_T156 l0_0 x6_1).f2) x63_3)
                 ·rw [if_pos c52] at H
                  have c52b0 := decide_eq_true c52
                  clear c52
                  by_cases c53 : (rd ((rd_T156 l0_0 x6_1).f2) x63_3) < (x4_3.length : Int)
                  ·rw [if_pos c53] at H
                   have c53b0 := decide_eq_true c53
                   clear c53
                   obtain ⟨y119, hy119⟩ : ∃ y_ : List Int, y_ = (x4_3.set ((rd ((rd_T156 l0_0 x6_1).f2) x63_3) : Int).toNat (wrap64 ((rd x4_3 (rd ((rd_T156 l0_0 x6_1).f2) x63_3)) + 1))) := ⟨_, rfl⟩
                   replace H : (if 0 ≤ x6_1 then (if x6_1 < (x5_3.length : Int) then (if (rd ((rd_T156 l0_0 x6_1).f2) x63_3) < (x5_3.length : Int) then (impl_RxOk.l1 k3 (wrap64 ((l0_0.length : Int) - 1)) y119 (x5_3.set ((rd ((rd_T156 l0_0 x6_1).f2) x63_3) : Int).toNat (wrap64 ((rd x5_3 x6_1) + 1))) x6_1 ((rd_T156 l0_0 x6_1).f2) (((rd_T156 l0_0 x6_1).f2).length : Int) (wrap64 (x63_3 + 1)) l0_0) else (none)) else (none)) else (none)) = some r := by first | (rw [hy119]; with_reducible exact H) | (have H2_ := (Option.bind_some _ _).symm.trans H; rw [hy119]; with_reducible exact H2_) | (have H2_ := (Option.bind_some _ _).symm.trans H; with_reducible exact H2_) | with_reducible exact H | (rw [hy119]; exact H) | exact H
                   have Ny119 := Aside0.mk hy119
                   clear hy119
                   by_cases c55 : 0 ≤ x6_1
                   ·rw [if_pos c55] at H
                    have c55b0 := decide_eq_true c55
                    clear c55
                    by_cases c56 : x6_1 < (x5_3.length : Int)
                    ·rw [if_pos c56] at H
                     have c56b0 := decide_eq_true c56
                     clear c56
                     by_cases c57 : (rd ((rd_T156 l0_0 x6_1).f2) x63_3) < (x5_3.length : Int)
                     ·rw [if_pos c57] at H
                      have c57b0 := decide_eq_true c57
                      clear c57
                      obtain ⟨y121, hy121⟩ : ∃ y_ : List Int, y_ = (x5_3.set ((rd ((rd_T156 l0_0 x6_1).f2) x63_3) : Int).toNat (wrap64 ((rd x5_3 x6_1) + 1))) := ⟨_, rfl⟩
                      replace H : (impl_RxOk.l1 k3 (wrap64 ((l0_0.length : Int) - 1)) y119 y121 x6_1 ((rd_T156 l0_0 x6_1).f2) (((rd_T156 l0_0 x6_1).f2).length : Int) (wrap64 (x63_3 + 1)) l0_0) = some r := by first | (rw [hy121]; with_reducible exact H) | (have H2_ := (Option.bind_some _ _).symm.trans H; rw [hy121]; with_reducible exact H2_) | (have H2_ := (Option.bind_some _ _).symm.trans H; with_reducible exact H2_) | with_reducible exact H | (rw [hy121]; exact H) | exact H
                      have Ny121 := Aside0.mk hy121
                      clear hy121
                      have H' := Aside0.mk H
                      clear H
                      have p117 : 0 ≤ (x63_3 : Int) := of_decide_eq_true as_
                      have q117 : x63_3 < (((rd_T156 l0_0 x6_1).f2).length : Int) := of_decide_eq_true as_
                      obtain ⟨ad117, e117, hx117_0⟩ := Kd.at_int HR111_2.out x63_3 p117 q117
                      cases e117
                      replace hx117_0 := mv_ HB.out hx117_0
                      replace p117 := eq_true p117
                      replace q117 := eq_true q117
                      obtain ⟨Ao59, co59, eo59⟩ := Kd.R_slice HO_4.out
                      subst eo59
                      have p118 : 0 ≤ ((rd ((rd_T156 l0_0 x6_1).f2) x63_3) : Int) := of_decide_eq_true as_
                      have q118 : (rd ((rd_T156 l0_0 x6_1).f2) x63_3) < (x4_3.length : Int) := of_decide_eq_true as_
                      obtain ⟨ad118, e118, hx118_0⟩ := Kd.at_int (Kd.R_reads' HO_4.out).2.2 (rd ((rd_T156 l0_0 x6_1).f2) x63_3) p118 q118
                      cases e118
                      replace p118 := eq_true p118
                      replace q118 := eq_true q118
                      have p54 : 0 ≤ ((rd ((rd_T156 l0_0 x6_1).f2) x63_3) : Int) := of_decide_eq_true as_
                      have q54 : ((rd ((rd_T156 l0_0 x6_1).f2) x63_3) : Int) < ((x4_3.length : Int) : Int) := of_decide_eq_true as_
                      obtain ⟨go54, co54, eo54, gb54, gl54, cl54, HG54⟩ := Kd.R_form HO_4.out (by omega)
                      (first | cases eo54 | (injection eo54 with ea_ en_ ec_; (first | subst ea_ | (injection ea_ with ea_; subst ea_)); subst ec_; clear en_))
                      have GB54 := Aside0.mk gb54
                      have GG54 := Aside0.mk HG54
                      clear gb54 gl54 HG54
                      (first | simp only [add_plain] at hx118_0 | skip)
                      obtain ⟨hx54_0, hf54_0⟩ := Kd.R_celln 0 HO_4.out ((rd ((rd_T156 l0_0 x6_1).f2) x63_3) : Int) p54 q54
                      replace p54 := eq_true p54
                      replace q54 := eq_true q54
                      have HP60 := Kd.R_putg HO_4.out ((rd ((rd_T156 l0_0 x6_1).f2) x63_3) : Int) (wrap64 ((rd x4_3 (rd ((rd_T156 l0_0 x6_1).f2) x63_3)) + 1))
                      go_wp2_with (first | ((with_reducible refine gate_store (t := 3) (p := 72) rfl ?_); refine store_event (t := 3) (p := 72) (v := ?vo_w61) (w1 := (wr.setCell ⟨go54, ((rd ((rd_T156 l0_0 x6_1).f2) x63_3) : Int).toNat, none⟩ (.int .i64 (wrap64 ((rd x4_3 (rd ((rd_T156 l0_0 x6_1).f2) x63_3)) + 1))))) ?hg ?ho ?hn ?hr ?_; (case ho => rfl); (case hg => rfl); (case hn => rfl); (case hr => first | (go_simp; done) | (go_simp; rfl)); intro w61 hw; have hg : wr.grownBy w61 (some go54) := (by rw [hw]; exact HP60.2); have hp_ : Kd.R (Kd.int .i64) 3 w61 w.heap.size (fun k_ => some k_ ≠ (v108 : Value).ownBlock) (.slice (some ⟨go54, 0, none⟩) x4_3.length co59) y119 := (by rw [hw, Ny119.out]; exact HP60.1); clear HP60; replace HO_5 := Aside0.mk (Kd.R_after (v := (.slice (some ⟨go54, 0, none⟩) x4_3.length co59)) (v1 := (.slice (some ⟨go54, 0, none⟩) x4_3.length co59)) (ok := (fun _ => True)) (by (with_reducible repeat (first | apply Kd.R_alloc | apply Kd.R_drewN | apply Kd.R_drew)); exact Kd.R_mono HO_5.out (fun _ hk => ⟨trivial, hk⟩)) hg (.inl rfl)); replace BK101 := Aside0.mk (blk_grown (g := gb101) (o := .cells #[.slice (some ad111) l0_0.length c0_0] 29 (0, 0)) (bk_ BK101.out) hg (Kd.R_ne HO_4.out BK101.out (by decide))); replace BK112 := Aside0.mk (blk_grown (g := gb112) (o := .cells #[.int .i64 ((rd_T156 l0_0 x6_1).f0), .slice A111_1 ((rd_T156 l0_0 x6_1).f1).length c111_1, .slice (some ad117) ((rd_T156 l0_0 x6_1).f2).length c111_2, .int .i64 ((rd_T156 l0_0 x6_1).f3), .int .i64 ((rd_T156 l0_0 x6_1).f4)] 156 (0, 0)) (bk_ BK112.out) hg (Kd.R_ne HO_4.out BK112.out (by decide))); replace HO_4 := Aside0.mk (hp_); replace HB := Aside0.mk ((by rw [hw]; exact below_set (HB.out) GB54.out : Below w.heap.size w w61)); clear hg hw hp_; obtain ⟨Ao62, co62, eo62⟩ := Kd.R_slice HO_5.out; subst eo62; have p120 : 0 ≤ (x6_1 : Int) := of_decide_eq_true as_; have q120 : x6_1 < (x5_3.length : Int) := of_decide_eq_true as_; obtain ⟨ad120, e120, hx120_0⟩ := Kd.at_int (Kd.R_reads' HO_5.out).2.2 x6_1 p120 q120; cases e120; replace p120 := eq_true p120; replace q120 := eq_true q120; have p58 : 0 ≤ ((rd ((rd_T156 l0_0 x6_1).f2) x63_3) : Int) := of_decide_eq_true as_; have q58 : ((rd ((rd_T156 l0_0 x6_1).f2) x63_3) : Int) < ((x5_3.length : Int) : Int) := of_decide_eq_true as_; obtain ⟨go58, co58, eo58, gb58, gl58, cl58, HG58⟩ := Kd.R_form HO_5.out (by omega); (first | cases eo58 | (injection eo58 with ea_ en_ ec_; (first | subst ea_ | (injection ea_ with ea_; subst ea_)); subst ec_; clear en_)); have GB58 := Aside0.mk gb58; have GG58 := Aside0.mk HG58; clear gb58 gl58 HG58; (first | simp only [add_plain] at hx120_0 | skip); obtain ⟨hx58_0, hf58_0⟩ := Kd.R_celln 0 HO_5.out ((rd ((rd_T156 l0_0 x6_1).f2) x63_3) : Int) p58 q58; replace p58 := eq_true p58; replace q58 := eq_true q58; have n_ := Aside0.mk (Kd.R_mono (ok' := (fun k_ => some k_ ≠ (.slice (some ⟨go54, 0, none⟩) x4_3.length co59 : Value).ownBlock)) HO_5.out (fun k_ hk => hk.2)); clear HO_5; have HO_5 := n_; clear n_; obtain ⟨hy63_, hz63_⟩ := Kd.R_celln 0 HO_5.out ((rd ((rd_T156 l0_0 x6_1).f2) x63_3) : Int) (of_decide_eq_true as_) (of_decide_eq_true as_); have HP63 := Kd.R_putg HO_5.out ((rd ((rd_T156 l0_0 x6_1).f2) x63_3) : Int) (wrap64 ((rd x5_3 x6_1) + 1))) | ((with_reducible refine gate_store (t := 3) (p := 80) rfl ?_); refine store_event (t := 3) (p := 80) (v := ?vo_w64) (w1 := (w61.setCell ⟨go58, ((rd ((rd_T156 l0_0 x6_1).f2) x63_3) : Int).toNat, none⟩ (.int .i64 (wrap64 ((rd x5_3 x6_1) + 1))))) ?hg ?ho ?hn ?hr ?_; (case ho => rfl); (case hg => rfl); (case hn => rfl); (case hr => first | (go_simp; done) | (go_simp; rfl)); intro w64 hw; have hg : w61.grownBy w64 (some go58) := (by rw [hw]; exact HP63.2); have hp_ : Kd.R (Kd.int .i64) 3 w64 w.heap.size (fun k_ => some k_ ≠ (.slice (some ⟨go54, 0, none⟩) x4_3.length co59 : Value).ownBlock) (.slice (some ⟨go58, 0, none⟩) x5_3.length co62) y121 := (by rw [hw, Ny121.out]; exact HP63.1); clear HP63; replace HO_4 := Aside0.mk (Kd.R_after (v := (.slice (some ⟨go58, 0, none⟩) x5_3.length co62)) (v1 := (.slice (some ⟨go58, 0, none⟩) x5_3.length co62)) (ok := (fun _ => True)) (by (with_reducible repeat (first | apply Kd.R_alloc | apply Kd.R_drewN | apply Kd.R_drew)); exact Kd.R_mono HO_4.out (fun _ hk => ⟨trivial, hk⟩)) hg (.inl rfl)); replace BK101 := Aside0.mk (blk_grown (g := gb101) (o := .cells #[.slice (some ad111) l0_0.length c0_0] 29 (0, 0)) (bk_ BK101.out) hg (Kd.R_ne HO_5.out BK101.out (by decide))); replace BK112 := Aside0.mk (blk_grown (g := gb112) (o := .cells #[.int .i64 ((rd_T156 l0_0 x6_1).f0), .slice A111_1 ((rd_T156 l0_0 x6_1).f1).length c111_1, .slice (some ad117) ((rd_T156 l0_0 x6_1).f2).length c111_2, .int .i64 ((rd_T156 l0_0 x6_1).f3), .int .i64 ((rd_T156 l0_0 x6_1).f4)] 156 (0, 0)) (bk_ BK112.out) hg (Kd.R_ne HO_5.out BK112.out (by decide))); replace HO_5 := Aside0.mk (hp_); replace HB := Aside0.mk ((by rw [hw]; exact below_set (HB.out) GB58.out : Below w.heap.size w w64)); clear hg hw hp_))
                      go_roundg k3
                      case measure => have := HK1.out; have := HJ17.out; have := HK3.out; omega
                      case rel => exact ⟨(y119), (y121), (wrap64 (x63_3 + 1)), rs_, H', ⟨by have := HK1.out; have := HJ17.out; have := HK3.out; omega⟩, ⟨by (with_reducible repeat (first | apply Kd.R_alloc | apply Kd.R_drewN | apply Kd.R_drew)); exact Kd.R_mono HO_4.out (fun _ hk => hk.2)⟩, ⟨ra_ HO_5.out⟩, ⟨bk_ BK101.out⟩, ⟨bk_ BK112.out⟩, ⟨be2_ HB.out GE101.out GE112.out⟩⟩
                     ·rw [if_neg c57] at H
                      exact absurd H (by simp)
                    ·rw [if_neg c56] at H
                     exact absurd H (by simp)
                   ·rw [if_neg c55] at H
                    exact absurd H (by simp)
                  ·rw [if_neg c53] at H
                   exact absurd H (by simp)
                 ·rw [if_neg c52] at H
                  exact absurd H (by simp)
                ·rw [if_neg c51] at H
                 exact absurd H (by simp)
               ·rw [if_neg c50] at H
                exact absurd H (by simp)
              ·rw [if_neg c49] at H
               have c49b0 := decide_eq_false c49
               clear c49
               have H' := Aside0.mk H
               clear H
               go_wp2
               go_roundg k3
               case measure => have := HK1.out; have := HJ17.out; have := HK3.out; omega
               case rel => exact ⟨(x4_3), (x5_3), (wrap64 (x6_1 - 1)), rs_, H', ⟨by have := HK1.out; have := HJ17.out; have := HK3.out; omega⟩, ⟨ra_ HO_4.out⟩, ⟨ra_ HO_5.out⟩, ⟨bk_ BK101.out⟩, ⟨be2_ HB.out GE101.out GE112.out⟩⟩
        ·rw [if_neg c17] at H
         exact absurd H (by simp)
       ·rw [if_neg c16] at H
        exact absurd H (by simp)
      ·rw [if_neg c15] at H
       have c15b0 : decide (0 ≤ x6_1) = false := decide_eq_false c15
       clear c15
       obtain ⟨ji65, hji65⟩ : ∃ j_ : Int, (wrap64 ((l0_0.length : Int) - 1)) = j_ := ⟨_, rfl⟩
       replace H : (if 0 ≤ (ji65) then (if (ji65) < (x4_1.length : Int) then (some ((rd x4_1 (ji65)) == 0)) else (none)) else (none)) = some r := by first | (rw [hji65] at H; exact H) | (simp only [hji65] at H ⊢; exact H)
       have hji65w : (IntKind.i64.wrap ((l0_0.length : Int) - 1)) = ji65 := (i64_w _).trans hji65
       by_cases c66 : 0 ≤ (ji65)
       ·rw [if_pos c66] at H
        have c66b0 := decide_eq_true c66
        clear c66
        by_cases c67 : (ji65) < (x4_1.length : Int)
        ·rw [if_pos c67] at H
         have c67b0 := decide_eq_true c67
         clear c67
         obtain rfl := Option.some.inj H
         obtain ⟨Ao68, co68, eo68⟩ := Kd.R_slice HO_4.out
         subst eo68
         have p110 : 0 ≤ ((ji65) : Int) := of_decide_eq_true as_
         have q110 : (ji65) < (x4_1.length : Int) := of_decide_eq_true as_
         obtain ⟨ad110, e110, hx110_0⟩ := Kd.at_int (Kd.R_reads' HO_4.out).2.2 (ji65) p110 q110
         cases e110
         replace p110 := eq_true p110
         replace q110 := eq_true q110
         go_wp2
         go_ret
         exact ⟨by first | rfl | (simp [errW_none, errW_some] <;> rfl) | (simp only [← hji65]; first | rfl | (simp [errW_none, errW_some] <;> rfl)) | (simp [*, errW_none, errW_some] <;> rfl), be1_ HB.out GE101.out⟩
        ·rw [if_neg c67] at H
         exact absurd H (by simp)
       ·rw [if_neg c66] at H
        exact absurd H (by simp)
   ·rw [if_neg c6] at H
    exact absurd H (by simp)
  ·rw [if_neg c5] at H
   exact absurd H (by simp)
 ·replace c4 := Bool.eq_false_iff.mpr c4
  subst c4
  rw [if_neg nft_] at H
  obtain rfl := Option.some.inj H
  go_enter Try.func62, Try.ntmps62
  go_wp2_with (first | ((with_reducible refine gate_dst (N := 1) rfl ?_); refine bx_ 1 #[.slice A0_0 l0_0.length c0_0] 29 ?_; intro gb101 hg w69 hbox hb; have BK101 := Aside0.mk (hbox); have GW101 := ge_ hg HB; have GE101 := GW101; replace HB := sb_ HB hb; clear hb hbox hg; obtain ⟨hcz70_0, hfz70_0⟩ := d1_ BK101) | ((with_reducible refine gate_callee (f := 118) rfl ?_); refine gl_ (some 12) rfl rfl Try.func118 #[.slice A0_0 l0_0.length c0_0] ?_; (with_reducible refine (impl_RNode.calls _ _ l0_0 t102 _ ?side1 ?side2 A2.out).mono ?_); (case side1 => exact Kd.C_below HR0_0.out (be_ HB.out)); (case side2 => exact HC0_0.out); rintro e w' ⟨rfl, ⟨nd, rfl⟩⟩; refine ⟨_, rfl, ?_⟩) | ((with_reducible refine gate_callee (f := 79) rfl ?_); refine gl_ (some 13) rfl rfl Try.func79 #[.int .i64 t102, .int .i64 1, .int .i64 300] ?_; (with_reducible refine (impl_within.calls t102 1 300 false _ A3.out).mono ?_); rintro e w' ⟨rfl, ⟨nd, rfl⟩⟩; refine ⟨_, rfl, ?_⟩))
  go_ret
  exact ⟨rt_, be1_ HB.out GE101.out⟩
end Go.Proofs.Ytijmhelacmjggaa.P
namespace Go.Proofs.Ytijmhelacmjggaa.P
open Go.RowKit Go.Proofs.YtijmhelacmjggaaW.PrintWords Go.Proofs.YtijmhelacmjggaaW.PrintLast Go.Proofs.YtijmhelacmjggaaW.PrintMore Go.Proofs.YtijmhelacmjggaaEv
set_option linter.unusedVariables false
set_option linter.unusedSimpArgs false
theorem rd_set (l : List Int) (x v p : Int) (h0 : 0 ≤ x) (hx : x < l.length) (hp : 0 ≤ p) : rd (l.set x.toNat v) p = if p = x then v else rd l p := by
  unfold rd
  simp only [List.getD_eq_getElem?_getD, List.getElem?_set]
  by_cases h : p = x
  · subst h
    rw [if_pos rfl, if_pos rfl, if_pos (by omega)]
    rfl
  · rw [if_neg (by omega), if_neg h]
def addKids (K kids : List Int) : List Int := kids.foldl (fun K x => K.set x.toNat (rd K x + 1)) K
def setKids (D kids : List Int) (v : Int) : List Int := kids.foldl (fun D x => D.set x.toNat v) D
theorem addKids_length (kids : List Int) : ∀ K : List Int, (addKids K kids).length = K.length := by
  induction kids with
  | nil => intro K; rfl
  | cons x kids ih => intro K; simp only [addKids, List.foldl_cons] at ih ⊢; rw [ih]; simp
theorem setKids_length (kids : List Int) (v : Int) : ∀ D : List Int, (setKids D kids v).length = D.length := by
  induction kids with
  | nil => intro K; rfl
  | cons x kids ih => intro K; simp only [setKids, List.foldl_cons] at ih ⊢; rw [ih]; simp
theorem addKids_rd (kids : List Int) : ∀ K : List Int, (∀ x ∈ kids, 0 ≤ x ∧ x < K.length) → ∀ p : Int, 0 ≤ p → rd (addKids K kids) p = rd K p + (kids.count p : Nat) := by
  induction kids with
  | nil => intro K _ p _; simp [addKids]
  | cons x kids ih =>
    intro K hk p hp
    have hx := hk x (by simp)
    have := ih (K.set x.toNat (rd K x + 1)) (fun y hy => by simpa using hk y (by simp [hy])) p hp
    simp only [addKids, List.foldl_cons] at this ⊢
    rw [this, rd_set _ _ _ _ hx.1 hx.2 hp, List.count_cons]
    by_cases h : p = x
    · subst h; simp; omega
    · rw [if_neg h]
      have : (x == p) = false := beq_eq_false_iff_ne.2 (fun e => h e.symm)
      simp [this]
theorem setKids_le (kids : List Int) (v : Int) (h0 : 0 ≤ v) (h1 : v ≤ 151) : ∀ D : List Int, (∀ p : Int, 0 ≤ p → 0 ≤ rd D p ∧ rd D p ≤ 151) → (∀ x ∈ kids, 0 ≤ x ∧ x < D.length) → ∀ p : Int, 0 ≤ p → 0 ≤ rd (setKids D kids v) p ∧ rd (setKids D kids v) p ≤ 151 := by
  induction kids with
  | nil => intro D hD _; exact hD
  | cons x kids ih =>
    intro D hD hk
    simp only [setKids, List.foldl_cons] at ih ⊢
    refine ih _ (fun p hp => ?_) (fun y hy => by simpa using hk y (by simp [hy]))
    rw [rd_set _ _ _ _ (hk x (by simp)).1 (hk x (by simp)).2 hp]
    split
    · exact ⟨h0, h1⟩
    · exact hD p hp
/-- How often p is a Kid of a node from place j on. -/
def cntFrom (l : List S156) (j : Nat) (p : Int) : Nat := ((l.drop j).map fun s => s.f2.count p).sum
theorem cntFrom_step (l : List S156) (j : Nat) (p : Int) (h : j < l.length) : cntFrom l j p = (rd_T156 l j).f2.count p + cntFrom l (j + 1) p := by
  unfold cntFrom
  rw [drop_cons l z156 j h]
  have hr : l.getD j z156 = rd_T156 l j := by simp [rd_T156]
  rw [hr]
  simp
theorem cntFrom_end (l : List S156) (p : Int) : cntFrom l l.length p = 0 := by simp [cntFrom]
def nodeAt (l : List S156) (j : Nat) : Bool := nodeB (rd_T156 l j).f0 (rd_T156 l j).f1 (rd_T156 l j).f2 (rd_T156 l j).f3 (rd_T156 l j).f4 j
/-- All nodes ahead of place j are right. -/
def nodesB (l : List S156) : Nat → Bool
  | 0 => true
  | j + 1 => nodeAt l j && nodesB l j
theorem kidsN_le (op : Int) : kidsN op ≤ 2 := by
  unfold kidsN
  split
  · omega
  · split
    · omega
    · split <;> omega
theorem node_kids {l : List S156} {j : Nat} (h : nodeAt l j = true) : (rd_T156 l j).f2.length ≤ 2 ∧ ((rd_T156 l j).f2.length : Int) = kidsN (rd_T156 l j).f0 ∧ ∀ x ∈ (rd_T156 l j).f2, 0 ≤ x ∧ x < j := by
  unfold nodeAt nodeB at h
  simp only [Bool.and_eq_true, decide_eq_true_eq, Bool.not_eq_true', List.any_eq_false, Bool.not_eq_true] at h
  obtain ⟨⟨⟨h1, h2⟩, _⟩, _⟩ := h
  refine ⟨by have := kidsN_le (rd_T156 l j).f0; omega, h1, fun x hx => ?_⟩
  have := h2 x hx
  simp at this
  omega
theorem nodesB_at {l : List S156} {n : Nat} (h : nodesB l n = true) : ∀ j, j < n → nodeAt l j = true := by
  induction n with
  | zero => intro j hj; omega
  | succ n ih =>
    simp only [nodesB, Bool.and_eq_true] at h
    intro j hj
    by_cases e : j = n
    · subst e; exact h.1
    · exact ih h.2 j (by omega)
theorem nodesB_of {l : List S156} {n : Nat} (h : ∀ j, j < n → nodeAt l j = true) : nodesB l n = true := by
  induction n with
  | zero => rfl
  | succ n ih =>
    simp only [nodesB, Bool.and_eq_true]
    exact ⟨h n (by omega), ih fun j hj => h j (by omega)⟩
/-- From place j - 1 down: each node but the last is a Kid of just one, and none lies too deep. -/
def treeR (l : List S156) : Nat → List Int → Bool
  | 0, _ => true
  | j + 1, D => (decide (j + 1 = l.length) || decide (cntFrom l (j + 1) j = 1)) && decide (rd D j ≤ 150) && treeR l j (setKids D (rd_T156 l j).f2 (rd D j + 1))
def rxB (l : List S156) : Bool := decide (1 ≤ l.length) && decide (l.length ≤ 300) && nodesB l l.length && treeR l l.length (List.replicate l.length 0)
theorem rxB_parts {l : List S156} (h : rxB l = true) : 1 ≤ l.length ∧ l.length ≤ 300 ∧ ∀ j, j < l.length → nodeAt l j = true := by
  simp only [rxB, Bool.and_eq_true, decide_eq_true_eq] at h
  exact ⟨h.1.1.1, h.1.1.2, nodesB_at h.1.2⟩
theorem rd_replicate (n : Nat) (p : Int) : rd (List.replicate n 0) p = 0 := by
  unfold rd
  rw [List.getD_eq_getElem?_getD, List.getElem?_replicate]
  split <;> rfl
theorem count_le_two {kids : List Int} (h : kids.length ≤ 2) (p : Int) : kids.count p ≤ 2 := Nat.le_trans List.count_le_length h
theorem impl_RxOk_l1 (l : List S156) (last : Int) (j : Nat) (kids : List Int) (r : Bool) (hk : ∀ x ∈ kids, 0 ≤ x ∧ x < j) (hn : l.length ≤ 300) (hj : j < l.length) (d : Int) (hd0 : 0 ≤ d) (hd : d ≤ 150) (hl2 : kids.length ≤ 2) :
    ∀ m, m ≤ kids.length → ∀ K D : List Int, K.length = l.length → D.length = l.length → rd D j = d → (∀ p : Int, 0 ≤ p → 0 ≤ rd K p ∧ rd K p + (kids.length - m : Nat) ≤ 100000) →
      Ev (fun k => impl_RxOk.l0 k last (addKids K (kids.drop m)) (setKids D (kids.drop m) (d + 1)) ((j : Int) - 1) l) r → Ev (fun k => impl_RxOk.l1 k last K D j kids kids.length (m : Nat) l) r := by
  intro m hm
  have key := down kids.length (fun m => ∀ K D : List Int, K.length = l.length → D.length = l.length → rd D j = d → (∀ p : Int, 0 ≤ p → 0 ≤ rd K p ∧ rd K p + (kids.length - m : Nat) ≤ 100000) →
      Ev (fun k => impl_RxOk.l0 k last (addKids K (kids.drop m)) (setKids D (kids.drop m) (d + 1)) ((j : Int) - 1) l) r → Ev (fun k => impl_RxOk.l1 k last K D j kids kids.length (m : Nat) l) r) ?_ ?_ m hm
  · exact key
  · intro K D _ _ _ _ h
    rw [ev_succ]
    simp only [impl_RxOk.l1, ev_ite]
    rw [if_neg (by omega), wrap_id (x := (j : Int) - 1) (by omega) (by omega)]
    rw [List.drop_length] at h
    exact h
  · intro m hm ih K D hK hD hDj hb h
    have hx : 0 ≤ rd kids m ∧ rd kids m < j := by
      have e : rd kids m = kids[m] := by unfold rd; rw [List.getD_eq_getElem?_getD, Int.toNat_natCast, List.getElem?_eq_getElem hm]; rfl
      rw [e]
      exact hk _ (List.getElem_mem _)
    rw [drop_cons kids 0 m hm] at h
    have hr : kids.getD m 0 = rd kids m := by simp [rd]
    rw [hr] at h
    simp only [addKids, setKids, List.foldl_cons] at h
    rw [ev_succ]
    simp only [impl_RxOk.l1, ev_ite]
    have hbx := hb (rd kids m) hx.1
    rw [if_pos (by omega), if_pos (by omega), if_pos (by omega), if_pos hx.1, if_pos (by omega), if_pos (by omega), if_pos (by omega), if_pos (by omega), wrap_succ hm (by omega), hDj, wrap_id (x := rd K (rd kids m) + 1) (by omega) (by omega), wrap_id (x := d + 1) (by omega) (by omega)]
    refine ih _ _ (by simpa using hK) (by simpa using hD) ?_ ?_ h
    · rw [rd_set _ _ _ _ hx.1 (by omega) (by omega), if_neg (by omega)]
      exact hDj
    · intro p hp
      have := hb p hp
      rw [rd_set _ _ _ _ hx.1 (by omega) hp]
      split
      · subst p; omega
      · omega
theorem impl_RxOk_l0 (l : List S156) (h1 : 1 ≤ l.length) (hn : l.length ≤ 300) :
    ∀ j, j ≤ l.length → ∀ K D : List Int, K.length = l.length → D.length = l.length → (∀ i, j ≤ i → i < l.length → nodeAt l i = true) → (∀ p : Int, 0 ≤ p → rd K p = cntFrom l j p) → (∀ p : Int, 0 ≤ p → 0 ≤ rd D p ∧ rd D p ≤ 151) → (∀ p : Int, 0 ≤ p → cntFrom l j p ≤ 2 * (l.length - j)) →
      Ev (fun k => impl_RxOk.l0 k ((l.length : Int) - 1) K D ((j : Int) - 1) l) (nodesB l j && treeR l j D) := by
  intro j
  induction j with
  | zero =>
    intro _ K D hK hD hok hc _ _
    rw [ev_succ]
    simp only [impl_RxOk.l0, ev_ite, ev_some, nodesB, treeR]
    rw [if_neg (by omega), if_pos (by omega), if_pos (by omega)]
    have hz : cntFrom l 0 ((l.length : Int) - 1) = 0 := by
      have : ∀ m, m ≤ l.length → cntFrom l m ((l.length : Int) - 1) = 0 := by
        refine down l.length _ (cntFrom_end l _) ?_
        intro i hi ih
        rw [cntFrom_step l i _ hi, ih, Nat.add_zero]
        refine List.count_eq_zero.2 (fun hmem => ?_)
        have := (node_kids (hok i (by omega) hi)).2.2 _ hmem
        omega
      exact this 0 (by omega)
    rw [hc _ (by omega), hz]
    rfl
  | succ j ih =>
    intro hj K D hK hD hok hc hDb hcb
    rw [ev_succ]
    have e : ((j + 1 : Nat) : Int) - 1 = (j : Int) := by omega
    simp only [impl_RxOk.l0, ev_ite, e, nodesB, treeR]
    rw [if_pos (by omega), if_pos (by omega), if_pos (by omega)]
    simp only [impl_nodeOk.f]
    rw [if_pos (by omega)]
    simp only [Option.bind_some, ev_ite]
    have hnode : nodeB (rd_T156 l j).f0 (rd_T156 l j).f1 (rd_T156 l j).f2 (rd_T156 l j).f3 (rd_T156 l j).f4 j = nodeAt l j := rfl
    rw [hnode]
    have hbad : Ev (fun k => impl_RxOk.j1 k ((l.length : Int) - 1) K D j true l (rd_T156 l j).f0 (rd_T156 l j).f1 (rd_T156 l j).f2 (rd_T156 l j).f3 (rd_T156 l j).f4) false := by
      rw [ev_succ]
      simp only [impl_RxOk.j1, if_true]
      exact ev_some.2 rfl
    cases hnd : nodeAt l j
    · rw [if_neg (by simp)]
      simpa using hbad
    rw [if_pos rfl, Bool.true_and]
    obtain ⟨hk2, _, hkl⟩ := node_kids hnd
    have hD' := hDb (j : Int) (by omega)
    -- the way on, where D is not too great
    have hgo : ∀ b : Bool, b = decide (rd D j > 150) → Ev (fun k => impl_RxOk.j1 k ((l.length : Int) - 1) K D j b l (rd_T156 l j).f0 (rd_T156 l j).f1 (rd_T156 l j).f2 (rd_T156 l j).f3 (rd_T156 l j).f4) (decide (rd D j ≤ 150) && (nodesB l j && treeR l j (setKids D (rd_T156 l j).f2 (rd D j + 1)))) := by
      intro b hb
      by_cases h15 : rd D j ≤ 150
      · rw [decide_eq_false (by omega)] at hb
        subst hb
        rw [decide_eq_true h15, Bool.true_and, ev_succ]
        simp only [impl_RxOk.j1, Bool.false_eq_true, if_false]
        have hl1 := impl_RxOk_l1 l ((l.length : Int) - 1) j (rd_T156 l j).f2 (nodesB l j && treeR l j (setKids D (rd_T156 l j).f2 (rd D j + 1))) hkl hn (by omega) (rd D j) hD'.1 h15 hk2 0 (by omega) K D hK hD rfl ?_ ?_
        · exact hl1
        · intro p hp
          have := hc p hp
          have := hcb p hp
          omega
        · rw [List.drop_zero]
          refine ih (by omega) _ _ (by rw [addKids_length]; exact hK) (by rw [setKids_length]; exact hD) ?_ ?_ ?_ ?_
          · intro i hi hi2
            by_cases e2 : i = j
            · subst e2; exact hnd
            · exact hok i (by omega) hi2
          · intro p hp
            rw [addKids_rd _ _ (fun x hx => by have := hkl x hx; omega) p hp, hc p hp, cntFrom_step l j p (by omega)]
            omega
          · exact setKids_le _ _ (by omega) (by omega) D hDb (fun x hx => by have := hkl x hx; omega)
          · intro p hp
            rw [cntFrom_step l j p (by omega)]
            have := hcb p hp
            have := count_le_two hk2 p
            omega
      · rw [decide_eq_true (by omega)] at hb
        subst hb
        rw [decide_eq_false h15, Bool.false_and]
        exact hbad
    by_cases hlast : j + 1 = l.length
    · rw [if_neg (by omega), if_pos (by omega), decide_eq_true hlast, Bool.true_or, Bool.true_and]
      refine ev_congr (hgo _ rfl) ?_
      cases nodesB l j <;> simp
    · rw [if_pos (by omega), if_pos (by omega), decide_eq_false hlast, Bool.false_or, hc _ (by omega)]
      by_cases h1c : cntFrom l (j + 1) j = 1
      · rw [if_pos (by omega), if_pos (by omega), decide_eq_true h1c, Bool.true_and]
        refine ev_congr (hgo _ rfl) ?_
        cases nodesB l j <;> simp
      · rw [if_neg (by omega), decide_eq_false h1c, Bool.false_and, Bool.false_and, Bool.and_false]
        exact hbad
theorem impl_RxOk_ev (l : List S156) (hl : l.length ≤ 1048576) : Ev (fun k => impl_RxOk.f k l) (rxB l) := by
  unfold impl_RxOk.f rxB
  simp only [impl_RNode.f, impl_within_eq, Option.bind_some, ev_ite]
  by_cases h : 1 ≤ l.length ∧ l.length ≤ 300
  · rw [if_pos (by simp; omega), if_pos (by omega), if_pos (by omega), wrap_id (x := (l.length : Int) - 1) (by omega) (by omega), decide_eq_true h.1, decide_eq_true h.2, Bool.true_and, Bool.true_and, Int.toNat_natCast]
    exact impl_RxOk_l0 l h.1 h.2 l.length (Nat.le_refl _) _ _ (by simp) (by simp) (fun i h1 h2 => by omega) (fun p _ => by rw [rd_replicate, cntFrom_end]; rfl) (fun p _ => by rw [rd_replicate]; omega) (fun p _ => by rw [cntFrom_end]; omega)
  · rw [if_neg (by simp; omega)]
    refine ev_some.2 ?_
    by_cases h1 : 1 ≤ l.length
    · rw [decide_eq_false (show ¬ l.length ≤ 300 by omega)]; simp
    · rw [decide_eq_false h1]; simp
theorem spec_l3Kids_ev (op : Int) (h : 1 ≤ op ∧ op ≤ 8) : Ev (fun k => spec_l3Kids.f k op) (kidsN op) := by
  have h0 : ∀ b, Ev (fun k => spec_l3Kids.j0 k op b) (if b then 2 else if op = 5 ∨ op = 6 ∨ op = 7 ∨ op = 8 then 1 else 0) := by
    intro b
    rw [ev_succ]
    simp only [spec_l3Kids.j0, ev_ite, ev_some]
    cases b <;> grind
  unfold spec_l3Kids.f kidsN
  simp only [ev_ite]
  by_cases e1 : op = 3
  · rw [if_pos e1]
    exact ev_congr (h0 _) (by grind)
  · rw [if_neg e1]
    exact ev_congr (h0 _) (by grind)
theorem spec_l3Node_ev (op : Int) (set : List S103) (kids : List Int) (mi ma place : Int) (hp0 : 0 ≤ place) (hp1 : place ≤ 1000000) (hk : kids.length ≤ 9223372036854775807) : Ev (fun k => spec_l3Node.f k op set kids mi ma place) (nodeB op set kids mi ma place) := by
  have hbad : Ev (fun k => spec_l3Node.j0 k place true op set kids mi ma) false := by
    rw [ev_succ]
    simp only [spec_l3Node.j0, if_true]
    exact ev_some.2 rfl
  have hj2 : ∀ b : Bool, Ev (fun k => spec_l3Node.j2 k b op set kids mi ma) (!b && (if op = 8 then timesB mi ma else decide (mi = 0) && decide (ma = 0))) := by
    intro b
    rw [ev_succ]
    simp only [spec_l3Node.j2, spec_l1In_eq, Option.bind_some, ev_ite, ev_some]
    cases b
    · rw [if_neg (by simp), Bool.not_false, Bool.true_and]
      by_cases h8 : op = 8
      · rw [if_pos h8, if_pos h8]
        unfold timesB mx
        by_cases c1 : 0 ≤ mi ∧ mi ≤ 30
        · rw [if_pos (by simpa using c1)]
          by_cases c2 : ma = -1
          · rw [if_pos c2]; simp [c1, c2]
          · rw [if_neg c2]
            by_cases c3 : 1 < mi
            · rw [if_pos c3, Bool.eq_iff_iff]; simp [c1, c2]; omega
            · rw [if_neg c3, Bool.eq_iff_iff]; simp [c1, c2]; omega
        · rw [if_neg (by simpa using c1)]
          simp [c1]
      · rw [if_neg h8, if_neg h8]
        by_cases c1 : mi = 0
        · rw [if_pos c1]; simp [c1]; rfl
        · rw [if_neg c1]; simp [c1]
    · rw [if_pos rfl]
      rfl
  unfold spec_l3Node.f nodeB
  simp only [spec_l1In_eq, Option.bind_some, ev_ite]
  by_cases h18 : 1 ≤ op ∧ op ≤ 8
  · rw [if_pos (by simpa using h18), ev_bind (spec_l3Kids_ev op h18)]
    by_cases hkk : (kids.length : Int) = kidsN op
    · rw [bne_eq_false_iff_eq.2 hkk, decide_eq_true hkk, Bool.true_and, ev_succ]
      simp only [spec_l3Node.j0, Bool.false_eq_true, if_false]
      have key := ev_loop kids.length (fun k i => spec_l3Node.l0 k place (i : Nat) op set kids mi ma) (fun i => !((kids.drop i).any fun x => !decide (0 ≤ x ∧ x ≤ place - 1)) && (if op = 2 then classB set && !decide (set.length = 0) else decide (set.length = 0)) && (if op = 8 then timesB mi ma else decide (mi = 0) && decide (ma = 0))) ?_ ?_ 0 (by omega)
      · exact key
      · rw [ev_succ]
        simp only [spec_l3Node.l0, ev_ite]
        rw [if_neg (by omega), List.drop_length]
        simp only [List.any_nil, Bool.not_false, Bool.true_and]
        by_cases h2 : op = 2
        · rw [if_pos h2, ev_bind (spec_ClassOk_ev set), if_pos h2]
          simp only [ev_ite]
          cases hc : classB set
          · rw [if_neg (by simp)]
            simpa using hj2 true
          · rw [if_pos rfl]
            by_cases hs : set.length = 0
            · rw [if_pos (by omega), decide_eq_true hs]
              simpa using hj2 true
            · rw [if_neg (by omega), decide_eq_false hs]
              simpa using hj2 false
        · rw [if_neg h2, if_neg h2]
          refine ev_congr (hj2 _) ?_
          by_cases hs : set.length = 0
          · rw [decide_eq_false (show ¬ (set.length : Int) > 0 by omega), decide_eq_true hs]; rfl
          · rw [decide_eq_true (show (set.length : Int) > 0 by omega), decide_eq_false hs]; rfl
      · intro i hi ih
        rw [ev_succ, drop_cons kids 0 i hi]
        have hr : kids.getD i 0 = rd kids i := by simp [rd]
        rw [hr]
        simp only [spec_l3Node.l0, spec_l1In_eq, Option.bind_some, ev_ite, List.any_cons]
        rw [if_pos (by omega), if_pos (by omega), wrap_succ hi (by omega), wrap_id (x := place - 1) (by omega) (by omega)]
        by_cases c : 0 ≤ rd kids i ∧ rd kids i ≤ place - 1
        · rw [if_pos (by simpa using c)]
          refine ev_congr ih ?_
          simp [c]
        · rw [if_neg (by simpa using c)]
          refine ev_some.2 ?_
          rw [decide_eq_false c]
          simp
    · rw [bne_iff_ne.2 hkk, decide_eq_false hkk]
      simpa using hbad
  · rw [if_neg (by simpa using h18)]
    refine ev_congr hbad ?_
    have : kidsN op = -1 := by
      unfold kidsN
      rw [if_neg (by omega), if_neg (by omega), if_neg (by omega)]
    rw [this, decide_eq_false (by omega)]
    simp
def cntTo (l : List S156) (j : Nat) (p : Int) : Nat := ((l.take j).map fun s => s.f2.count p).sum
theorem cntTo_step (l : List S156) (j : Nat) (p : Int) (h : j < l.length) : cntTo l (j + 1) p = cntTo l j p + (rd_T156 l j).f2.count p := by
  have hr : rd_T156 l (j : Int) = l[j] := by unfold rd_T156; rw [List.getD_eq_getElem?_getD, Int.toNat_natCast, List.getElem?_eq_getElem h]; rfl
  unfold cntTo
  rw [hr, List.take_succ_eq_append_getElem h, List.map_append, List.sum_append]
  simp only [List.map_cons, List.map_nil, List.sum_cons, List.sum_nil, Nat.add_zero]
theorem cntTo_all (l : List S156) (p : Int) : cntTo l l.length p = cntFrom l 0 p := by simp [cntTo, cntFrom]
/-- No node up to place j has j for a Kid. -/
theorem cntFrom_own (l : List S156) (hok : ∀ i, i < l.length → nodeAt l i = true) (j : Nat) (hj : j < l.length) : cntFrom l 0 j = cntFrom l (j + 1) j := by
  have : ∀ m, m ≤ j + 1 → cntFrom l m j = cntFrom l (j + 1) j := by
    refine down (j + 1) _ rfl ?_
    intro i hi ih
    rw [cntFrom_step l i _ (by omega), ih]
    have : (rd_T156 l i).f2.count (j : Int) = 0 := List.count_eq_zero.2 (fun hmem => by
      have := (node_kids (hok i (by omega))).2.2 _ hmem
      omega)
    omega
  exact this 0 (by omega)
theorem spec_RxOk_l3 (l : List S156) (n : Int) (U : List Int) (j : Nat) (kids : List Int) (hkk : kids = (rd_T156 l j).f2) (r : Bool) (hk : ∀ x ∈ kids, 0 ≤ x ∧ x < j) (hn : l.length ≤ 300) (hj : j < l.length) (d : Int) (hd0 : 0 ≤ d) (hd : d ≤ 150) (hl2 : kids.length ≤ 2) :
    ∀ m, m ≤ kids.length → ∀ D : List Int, D.length = l.length → rd D j = d →
      Ev (fun k => spec_RxOk.l2 k n U (setKids D (kids.drop m) (d + 1)) ((j : Int) - 1) l) r → Ev (fun k => spec_RxOk.l3 k n U D j (m : Nat) l) r := by
  subst hkk
  refine down _ _ ?_ ?_
  · intro D _ _ h
    rw [ev_succ]
    simp only [spec_RxOk.l3, ev_ite]
    rw [if_pos (by omega), if_pos (by omega), if_neg (by omega), wrap_id (x := (j : Int) - 1) (by omega) (by omega)]
    rw [List.drop_length] at h
    exact h
  · intro m hm ih D hD hDj h
    have hx : 0 ≤ rd (rd_T156 l j).f2 m ∧ rd (rd_T156 l j).f2 m < j := by
      have e : rd (rd_T156 l j).f2 m = (rd_T156 l j).f2[m] := by unfold rd; rw [List.getD_eq_getElem?_getD, Int.toNat_natCast, List.getElem?_eq_getElem hm]; rfl
      rw [e]
      exact hk _ (List.getElem_mem _)
    rw [drop_cons _ 0 m hm] at h
    have hr : (rd_T156 l j).f2.getD m 0 = rd (rd_T156 l j).f2 m := by simp [rd]
    rw [hr] at h
    simp only [setKids, List.foldl_cons] at h
    rw [ev_succ]
    simp only [spec_RxOk.l3, ev_ite]
    rw [if_pos (by omega), if_pos (by omega), if_pos (by omega), if_pos (by omega), if_pos (by omega), if_pos hx.1, if_pos (by omega), wrap_succ hm (by omega), hDj, wrap_id (x := d + 1) (by omega) (by omega)]
    refine ih _ (by simpa using hD) ?_ h
    rw [rd_set _ _ _ _ hx.1 (by omega) (by omega), if_neg (by omega)]
    exact hDj
theorem spec_RxOk_l2 (l : List S156) (h1 : 1 ≤ l.length) (hn : l.length ≤ 300) (U : List Int) (hU : U.length = l.length) (hok : ∀ i, i < l.length → nodeAt l i = true) (hUc : ∀ p : Int, 0 ≤ p → rd U p = cntFrom l 0 p) :
    ∀ j, j ≤ l.length → ∀ D : List Int, D.length = l.length → (∀ p : Int, 0 ≤ p → 0 ≤ rd D p ∧ rd D p ≤ 151) → Ev (fun k => spec_RxOk.l2 k l.length U D ((j : Int) - 1) l) (treeR l j D) := by
  intro j
  induction j with
  | zero =>
    intro _ D hD _
    rw [ev_succ]
    simp only [spec_RxOk.l2, ev_ite, ev_some, treeR]
    rw [if_neg (by omega)]
    trivial
  | succ j ih =>
    intro hj D hD hDb
    rw [ev_succ]
    have e : ((j + 1 : Nat) : Int) - 1 = (j : Int) := by omega
    simp only [spec_RxOk.l2, ev_ite, e, treeR]
    rw [if_pos (by omega), wrap_id (x := (l.length : Int) - 1) (by omega) (by omega)]
    have hbad : Ev (fun k => spec_RxOk.j4 k l.length U D j true l) false := by
      rw [ev_succ]
      simp only [spec_RxOk.j4, if_true]
      exact ev_some.2 rfl
    obtain ⟨hk2, _, hkl⟩ := node_kids (hok j (by omega))
    have hD' := hDb (j : Int) (by omega)
    have hgo : Ev (fun k => spec_RxOk.j4 k l.length U D j (decide (rd D j > 150)) l) (decide (rd D j ≤ 150) && treeR l j (setKids D (rd_T156 l j).f2 (rd D j + 1))) := by
      by_cases h15 : rd D j ≤ 150
      · rw [decide_eq_false (show ¬ rd D j > 150 by omega), decide_eq_true h15, Bool.true_and, ev_succ]
        simp only [spec_RxOk.j4, Bool.false_eq_true, if_false]
        refine spec_RxOk_l3 l l.length U j _ rfl _ hkl hn (by omega) (rd D j) hD'.1 h15 hk2 0 (by omega) D hD rfl ?_
        rw [List.drop_zero]
        exact ih (by omega) _ (by rw [setKids_length]; exact hD) (setKids_le _ _ (by omega) (by omega) D hDb (fun x hx => by have := hkl x hx; omega))
      · rw [decide_eq_true (show rd D j > 150 by omega), decide_eq_false h15, Bool.false_and]
        exact hbad
    by_cases hlast : j + 1 = l.length
    · rw [if_neg (by omega), if_pos (by omega), if_pos (by omega), decide_eq_true hlast, Bool.true_or, Bool.true_and]
      exact hgo
    · rw [if_pos (by omega), if_pos (by omega), if_pos (by omega), decide_eq_false hlast, Bool.false_or, hUc _ (by omega), cntFrom_own l hok j (by omega)]
      by_cases h1c : cntFrom l (j + 1) j = 1
      · rw [if_pos (by omega), if_pos (by omega), decide_eq_true h1c, Bool.true_and]
        exact hgo
      · rw [if_neg (by omega), decide_eq_false h1c, Bool.false_and, Bool.false_and]
        exact hbad
theorem spec_RxOk_l1 (l : List S156) (n : Int) (j : Nat) (kids : List Int) (hkk : kids = (rd_T156 l j).f2) (r : Bool) (hk : ∀ x ∈ kids, 0 ≤ x ∧ x < j) (hn : l.length ≤ 300) (hj : j < l.length) (hl2 : kids.length ≤ 2) :
    ∀ m, m ≤ kids.length → ∀ K : List Int, K.length = l.length → (∀ p : Int, 0 ≤ p → 0 ≤ rd K p ∧ rd K p + (kids.length - m : Nat) ≤ 100000) →
      Ev (fun k => spec_RxOk.l0 k n (addKids K (kids.drop m)) ((j + 1 : Nat) : Int) l) r → Ev (fun k => spec_RxOk.l1 k n K j (m : Nat) l) r := by
  subst hkk
  refine down _ _ ?_ ?_
  · intro K _ _ h
    rw [ev_succ]
    simp only [spec_RxOk.l1, ev_ite]
    rw [if_pos (by omega), if_pos (by omega), if_neg (by omega), wrap_succ hj (by omega)]
    rw [List.drop_length] at h
    exact h
  · intro m hm ih K hK hb h
    have hx : 0 ≤ rd (rd_T156 l j).f2 m ∧ rd (rd_T156 l j).f2 m < j := by
      have e : rd (rd_T156 l j).f2 m = (rd_T156 l j).f2[m] := by unfold rd; rw [List.getD_eq_getElem?_getD, Int.toNat_natCast, List.getElem?_eq_getElem hm]; rfl
      rw [e]
      exact hk _ (List.getElem_mem _)
    rw [drop_cons _ 0 m hm] at h
    have hr : (rd_T156 l j).f2.getD m 0 = rd (rd_T156 l j).f2 m := by simp [rd]
    rw [hr] at h
    simp only [addKids, List.foldl_cons] at h
    rw [ev_succ]
    simp only [spec_RxOk.l1, ev_ite]
    have hbx := hb _ hx.1
    rw [if_pos (by omega), if_pos (by omega), if_pos (by omega), if_pos (by omega), if_pos hx.1, if_pos (by omega), wrap_succ hm (by omega), wrap_id (x := rd K (rd (rd_T156 l j).f2 m) + 1) (by omega) (by omega)]
    refine ih _ (by simpa using hK) ?_ h
    intro p hp
    have := hb p hp
    rw [rd_set _ _ _ _ hx.1 (by omega) hp]
    split
    · subst p; omega
    · omega
theorem spec_RxOk_ev (l : List S156) (hl : l.length ≤ 1048576) (hkl : ∀ x ∈ l, x.f2.length ≤ 9223372036854775807) : Ev (fun k => spec_RxOk.f k l) (rxB l) := by
  have hbad : ∀ n, Ev (fun k => spec_RxOk.j0 k n true l) false := by
    intro n
    rw [ev_succ]
    simp only [spec_RxOk.j0, if_true]
    exact ev_some.2 rfl
  unfold spec_RxOk.f rxB
  simp only [ev_ite]
  by_cases h1 : 1 ≤ l.length
  · rw [if_neg (by omega)]
    by_cases hn : l.length ≤ 300
    · rw [decide_eq_false (show ¬ (l.length : Int) > 300 by omega), decide_eq_true h1, decide_eq_true hn, Bool.true_and, Bool.true_and, ev_succ]
      simp only [spec_RxOk.j0, Bool.false_eq_true, if_false, ev_ite]
      rw [if_pos (by omega), if_pos (by omega), Int.toNat_natCast]
      have key := down l.length (fun i => (∀ m, m < i → nodeAt l m = true) → ∀ U : List Int, U.length = l.length → (∀ p : Int, 0 ≤ p → rd U p = cntTo l i p) → (∀ p : Int, 0 ≤ p → cntTo l i p ≤ 2 * i) → Ev (fun k => spec_RxOk.l0 k l.length U (i : Nat) l) (nodesB l l.length && treeR l l.length (List.replicate l.length 0))) ?_ ?_ 0 (by omega) (fun m hm => by omega) (List.replicate l.length 0) (by simp) (fun p _ => by rw [rd_replicate]; rfl) (fun p _ => by simp [cntTo])
      · exact key
      · intro hok U hU hUc _
        rw [ev_succ]
        simp only [spec_RxOk.l0, ev_ite]
        rw [if_neg (by omega), if_pos (by omega), if_pos (by omega), Int.toNat_natCast, wrap_id (x := (l.length : Int) - 1) (by omega) (by omega), nodesB_of hok, Bool.true_and]
        exact spec_RxOk_l2 l h1 hn U hU hok (fun p hp => by rw [hUc p hp, cntTo_all]) l.length (Nat.le_refl _) _ (by simp) (fun p _ => by rw [rd_replicate]; omega)
      · intro i hi ih hok U hU hUc hUb
        rw [ev_succ]
        simp only [spec_RxOk.l0, ev_ite]
        have hmem : (rd_T156 l i) ∈ l := by
          unfold rd_T156
          rw [List.getD_eq_getElem?_getD, Int.toNat_natCast, List.getElem?_eq_getElem hi]
          exact List.getElem_mem _
        rw [if_pos (by omega), if_pos (by omega), if_pos (by omega), ev_bind (spec_l3Node_ev _ _ _ _ _ _ (by omega) (by omega) (hkl _ hmem)), ev_ite]
        have hnode : nodeB (rd_T156 l i).f0 (rd_T156 l i).f1 (rd_T156 l i).f2 (rd_T156 l i).f3 (rd_T156 l i).f4 i = nodeAt l i := rfl
        rw [hnode]
        cases hnd : nodeAt l i
        · rw [if_neg (by simp)]
          refine ev_some.2 ?_
          cases hall : nodesB l l.length
          · rfl
          · rw [nodesB_at hall i hi] at hnd
            exact absurd hnd (by simp)
        · rw [if_pos rfl]
          obtain ⟨hk2, _, hkl2⟩ := node_kids hnd
          refine spec_RxOk_l1 l l.length i _ rfl _ hkl2 hn hi hk2 0 (by omega) U hU (fun p hp => by have := hUc p hp; have := hUb p hp; omega) ?_
          rw [List.drop_zero]
          refine ih (fun m hm => ?_) _ (by rw [addKids_length]; exact hU) (fun p hp => ?_) (fun p hp => ?_)
          · by_cases e : m = i
            · subst e; exact hnd
            · exact hok m (by omega)
          · rw [addKids_rd _ _ (fun x hx => by have := hkl2 x hx; omega) p hp, hUc p hp, cntTo_step l i p hi]
            omega
          · rw [cntTo_step l i p hi]
            have := hUb p hp
            have := count_le_two hk2 p
            omega
    · rw [decide_eq_true (show (l.length : Int) > 300 by omega), decide_eq_false hn]
      simpa using hbad _
  · rw [if_pos (by omega), decide_eq_false h1]
    simpa using hbad _
end Go.Proofs.Ytijmhelacmjggaa.P
namespace Go.Proofs.Ytijmhelacmjggaa.P
open Go.RowKit Go.Shelf Go.Proofs.YtijmhelacmjggaaW.PrintWords Go.Proofs.YtijmhelacmjggaaW.PrintLast Go.Proofs.YtijmhelacmjggaaW.PrintMore Go.Proofs.YtijmhelacmjggaaEv
set_option linter.unusedVariables false
set_option linter.unusedSimpArgs false
def nullK (nodes : List S156) : Nat → Nat → Bool
  | 0, _ => false
  | n + 1, k =>
    if (rd_T156 nodes (k : Int)).f0 = 1 then true
    else if (rd_T156 nodes (k : Int)).f0 = 2 then false
    else if (rd_T156 nodes (k : Int)).f0 = 3 then nullK nodes n (rd (rd_T156 nodes (k : Int)).f2 0).toNat && nullK nodes n (rd (rd_T156 nodes (k : Int)).f2 1).toNat
    else if (rd_T156 nodes (k : Int)).f0 = 4 then nullK nodes n (rd (rd_T156 nodes (k : Int)).f2 0).toNat || nullK nodes n (rd (rd_T156 nodes (k : Int)).f2 1).toNat
    else if (rd_T156 nodes (k : Int)).f0 = 5 then true
    else if (rd_T156 nodes (k : Int)).f0 = 6 then nullK nodes n (rd (rd_T156 nodes (k : Int)).f2 0).toNat
    else if (rd_T156 nodes (k : Int)).f0 = 7 then true
    else (decide ((rd_T156 nodes (k : Int)).f3 = 0) || nullK nodes n (rd (rd_T156 nodes (k : Int)).f2 0).toNat)
def nullE (nodes : List S156) (k : Nat) : Bool := nullK nodes (k + 1) k
theorem rd_in (l : List Int) (i : Nat) (h : i < l.length) : rd l (i : Int) ∈ l := by
  unfold rd
  rw [List.getD_eq_getElem?_getD, Int.toNat_natCast, List.getElem?_eq_getElem h]
  exact List.getElem_mem _
/-- What a right node is like. -/
theorem node_ops {nodes : List S156} {k : Nat} (h : nodeAt nodes k = true) : ((rd_T156 nodes (k : Int)).f0 = 1 ∨ (rd_T156 nodes (k : Int)).f0 = 2) ∨
    (((rd_T156 nodes (k : Int)).f0 = 3 ∨ (rd_T156 nodes (k : Int)).f0 = 4) ∧ (rd_T156 nodes (k : Int)).f2.length = 2) ∨
    (((rd_T156 nodes (k : Int)).f0 = 5 ∨ (rd_T156 nodes (k : Int)).f0 = 6 ∨ (rd_T156 nodes (k : Int)).f0 = 7 ∨ (rd_T156 nodes (k : Int)).f0 = 8) ∧ (rd_T156 nodes (k : Int)).f2.length = 1) := by
  obtain ⟨_, h1, _⟩ := node_kids h
  unfold kidsN at h1
  split at h1
  · exact .inl ‹_›
  · split at h1
    · exact .inr (.inl ⟨‹_›, by omega⟩)
    · split at h1
      · exact .inr (.inr ⟨‹_›, by omega⟩)
      · omega
theorem node_kid {nodes : List S156} {k : Nat} (h : nodeAt nodes k = true) (i : Nat) (hi : i < (rd_T156 nodes (k : Int)).f2.length) : rd (rd_T156 nodes (k : Int)).f2 (i : Int) = (((rd (rd_T156 nodes (k : Int)).f2 (i : Int)).toNat : Nat) : Int) ∧ (rd (rd_T156 nodes (k : Int)).f2 (i : Int)).toNat < k := by
  obtain ⟨_, _, h2⟩ := node_kids h
  have := h2 _ (rd_in _ i hi)
  omega
theorem node_times {nodes : List S156} {k : Nat} (h : nodeAt nodes k = true) (h8 : (rd_T156 nodes (k : Int)).f0 = 8) : (0 ≤ (rd_T156 nodes (k : Int)).f3 ∧ (rd_T156 nodes (k : Int)).f3 ≤ 1000) ∧ (rd_T156 nodes (k : Int)).f4 ≤ 1000 := by
  unfold nodeAt nodeB at h
  simp only [Bool.and_eq_true, h8, if_true, timesB, decide_eq_true_eq, Bool.or_eq_true] at h
  omega
theorem nullK_stable {nodes : List S156} (hok : ∀ j, j < nodes.length → nodeAt nodes j = true) : ∀ m k : Nat, k < m → k < nodes.length → ∀ n, k < n → nullK nodes n k = nullE nodes k := by
  intro m
  induction m with
  | zero => intro k hk; omega
  | succ m ih =>
    intro k hk hkl n hn
    cases n with
    | zero => omega
    | succ n =>
      have hkid : ∀ i : Nat, i < (rd_T156 nodes (k : Int)).f2.length → nullK nodes n (rd (rd_T156 nodes (k : Int)).f2 (i : Int)).toNat = nullK nodes k (rd (rd_T156 nodes (k : Int)).f2 (i : Int)).toNat := by
        intro i hi
        obtain ⟨_, h2⟩ := node_kid (hok k hkl) i hi
        rw [ih _ (by omega) (by omega) n (by omega), ih _ (by omega) (by omega) k (by omega)]
      have k0 := hkid 0
      have k1 := hkid 1
      simp only [Int.ofNat_zero, Int.natCast_one, Int.cast_ofNat_Int] at k0 k1
      unfold nullE
      simp only [nullK]
      rcases node_ops (hok k hkl) with (h | h) | ⟨h | h, hl⟩ | ⟨h | h | h | h, hl⟩
      · simp [h]
      · simp [h]
      · rw [k0 (by omega), k1 (by omega)]
      · rw [k0 (by omega), k1 (by omega)]
      · simp [h]
      · rw [k0 (by omega)]; simp [h]
      · simp [h]
      · rw [k0 (by omega)]; simp [h]
theorem ends_all {w0 : World} {gm gg cn : Nat} {An : Option Addr} {nodes : List S156} {tx : ByteArray} (ht : tx.size = 0) (hn : nodes.length ≤ 100000) (hN : Kd.C k156 w0 An nodes.length nodes) (hok : ∀ j, j < nodes.length → nodeAt nodes j = true) : ∀ m k : Nat, k < m → k < nodes.length → EOK w0 gm gg An cn nodes tx (nullE nodes) k := by
  intro m
  induction m with
  | zero => intro k hk; omega
  | succ m ih =>
    intro k hk hkl
    refine ends_of ht hn k hkl ?_
    have kid : ∀ i : Nat, i < (rd_T156 nodes (k : Int)).f2.length → rd (rd_T156 nodes (k : Int)).f2 (i : Int) = (((rd (rd_T156 nodes (k : Int)).f2 (i : Int)).toNat : Nat) : Int) ∧ EOK w0 gm gg An cn nodes tx (nullE nodes) (rd (rd_T156 nodes (k : Int)).f2 (i : Int)).toNat ∧ nullK nodes k (rd (rd_T156 nodes (k : Int)).f2 (i : Int)).toNat = nullE nodes (rd (rd_T156 nodes (k : Int)).f2 (i : Int)).toNat := by
      intro i hi
      obtain ⟨h1, h2⟩ := node_kid (hok k hkl) i hi
      exact ⟨h1, ih _ (by omega) (by omega), nullK_stable hok nodes.length _ (by omega) (by omega) k h2⟩
    have k0 := kid 0
    have k1 := kid 1
    simp only [Int.ofNat_zero, Int.natCast_one, Int.cast_ofNat_Int] at k0 k1
    rcases node_ops (hok k hkl) with (h | h) | ⟨h | h, hl⟩ | ⟨h | h | h | h, hl⟩
    · exact find_empty ht hn k hkl hN h (by simp [nullE, nullK, h])
    · exact find_set ht hn k hkl hN h (by simp [nullE, nullK, h])
    · obtain ⟨a0, b0, c0⟩ := k0 (by omega)
      obtain ⟨a1, b1, c1⟩ := k1 (by omega)
      exact find_cat ht hn k hkl hN h hl _ a0 b0 _ a1 b1 (by rw [← c0, ← c1]; simp [nullE, nullK, h])
    · obtain ⟨a0, b0, c0⟩ := k0 (by omega)
      obtain ⟨a1, b1, c1⟩ := k1 (by omega)
      exact find_alt ht hn k hkl hN h hl _ a0 b0 _ a1 b1 (by rw [← c0, ← c1]; simp [nullE, nullK, h])
    · obtain ⟨a0, b0, c0⟩ := k0 (by omega)
      exact find_star ht hn k hkl hN h hl _ a0 b0 (by simp [nullE, nullK, h])
    · obtain ⟨a0, b0, c0⟩ := k0 (by omega)
      exact find_plus ht hn k hkl hN h hl _ a0 b0 (by rw [← c0]; simp [nullE, nullK, h])
    · obtain ⟨a0, b0, c0⟩ := k0 (by omega)
      exact find_maybe ht hn k hkl hN h hl _ a0 b0 (by simp [nullE, nullK, h])
    · obtain ⟨a0, b0, c0⟩ := k0 (by omega)
      obtain ⟨t1, t2⟩ := node_times (hok k hkl) h
      exact find_times ht hn k hkl hN h hl _ a0 b0 t1 t2 (by rw [← c0]; simp [nullE, nullK, h])
set_option maxHeartbeats 16000000 in
set_option maxRecDepth 100000 in
theorem endsAt_hand (A0 : Option Addr) (c0 : Nat) (l : List S156) (w : World) (hn : l.length ≤ 1048576) (hkl : ∀ x ∈ l, x.f2.length ≤ 9223372036854775807) (hr : Kd.C k156 w A0 l.length l) (hc : l.length ≤ c0) :
    Calls Try.prog 67 #[.agg #[.slice A0 l.length c0], .string ⟨#[]⟩, .int .i64 0] w fun e w' => ∃ v, e = .returned v ∧ Kd.R (Kd.int .i64) 2 w' w.heap.size (fun _ => True) v (if rxB l && nullE l (l.length - 1) then [0] else []) ∧ Below w.heap.size w w' := by
  obtain ⟨kx, hx⟩ := ev_get (spec_RxOk_ev l hn hkl)
  have CN := Aside0.mk hr
  have CL := Aside0.mk hc
  have HX := Aside0.mk hx
  obtain ⟨gx, hgx⟩ : ∃ gx, w.heap.size = gx := ⟨_, rfl⟩
  have BX : Aside0 ((w.alloc (.cells #[.slice A0 l.length c0] 29)).heap[gx]? = some (.cells #[.slice A0 l.length c0] 29 (0, 0))) := ⟨by rw [← hgx]; exact blk_new w _⟩
  have HB := Aside0.mk (below_alloc (Below.refl w.heap.size w) (.cells #[.slice A0 l.length c0] 29))
  obtain ⟨tx, htx⟩ : ∃ tx : ByteArray, (⟨#[]⟩ : ByteArray) = tx := ⟨_, rfl⟩
  have ht : tx.size = 0 := by rw [← htx]; rfl
  rw [htx]
  clear hr hc hx htx
  cases hrx : rxB l with
  | false =>
    rw [hrx] at HX
    clear hrx
    go_enter Try.func67, Try.ntmps67
    go_wp2_with (first | ((with_reducible refine gate_dst (N := 11) rfl ?_); refine Kd.R_lit (Kd.int .i64) _ 2 ?hg (N := 11) ?hd (xs := ([] : List Int)) (inner := []) (ok := fun _ => True) (okp := fun _ => True) ?hr ?hp (fun _ hk => hk) trivial (Below.refl _ _) (Nat.le_refl _) (by simp) ?_; (case hd => rfl); (case hg => rfl); (case hr => first | (go_simp; done) | (go_simp; rfl)); (case hp => exact (Reps.none _ _)); intro v1 w1 ho hb hg_ hnew_; clear hg_ hnew_; have nBX := Aside0.mk (blk_below BX.out hb); have HO := Aside0.mk (Kd.R_lower ho (below_size HB.out)); have nHB := Aside0.mk (below_step HB.out hb); clear BX HB ho hb; have BX := nBX; have HB := nHB; clear nBX nHB; have hx0 : w1.cell? ⟨gx, 0, none⟩ = some (.slice A0 l.length c0) := (blk_cell BX.out 0).trans rfl) | (go_at_call 59; refine (spec_RxOk.calls kx A0 c0 l false _ (Kd.C_below CN.out (by repeat (first | (with_reducible exact HB.out) | apply below_alloc | apply pw_below_drewN | apply below_drew1))) CL.out HX.out).mono ?_; rintro e w3 ⟨rfl, hb3⟩; have nBX := Aside0.mk (blk_below (by (with_reducible repeat (first | refine blk_drewN ?_ _ | refine blk_drew ?_)); exact BX.out) hb3); have nHB := Aside0.mk (below_step (by repeat (first | (with_reducible exact HB.out) | apply below_alloc | apply pw_below_drewN | apply below_drew1)) hb3); have nO := Aside0.mk (Kd.R_below (by (with_reducible repeat (first | apply Kd.R_alloc | apply Kd.R_drewN | apply Kd.R_drew)); exact HO.out) hb3); clear BX HB HO hb3; have BX := nBX; have HB := nHB; have HO := nO; clear nBX nHB nO; have hx0 : w3.cell? ⟨gx, 0, none⟩ = some (.slice A0 l.length c0) := (blk_cell BX.out 0).trans rfl) | (go_at_call 89; refine (spec_l1In.calls 0 0 0 true _ rfl).mono ?_; rintro e w4 ⟨rfl, ⟨nd, rfl⟩⟩))
    go_ret
    subst hgx
    exact ⟨_, rfl, by simpa using HO.out, by repeat (first | (with_reducible exact HB.out) | apply below_alloc | apply pw_below_drewN | apply below_drew1)⟩
  | true =>
    rw [hrx] at HX
    obtain ⟨hl1, hl3, hok⟩ := rxB_parts hrx
    clear hrx
    obtain ⟨res, hres⟩ : ∃ res : List Int, (if (true && nullE l (l.length - 1)) = true then [0] else []) = res := ⟨_, rfl⟩
    rw [hres]
    have HRES := Aside0.mk hres
    clear hres
    go_enter Try.func67, Try.ntmps67
    go_wp2_with (first | ((with_reducible refine gate_dst (N := 11) rfl ?_); refine Kd.R_lit (Kd.int .i64) _ 2 ?hg (N := 11) ?hd (xs := ([] : List Int)) (inner := []) (ok := fun _ => True) (okp := fun _ => True) ?hr ?hp (fun _ hk => hk) trivial (Below.refl _ _) (Nat.le_refl _) (by simp) ?_; (case hd => rfl); (case hg => rfl); (case hr => first | (go_simp; done) | (go_simp; rfl)); (case hp => exact (Reps.none _ _)); intro v1 w1 ho hb hg_ hnew_; clear hg_ hnew_; have nBX := Aside0.mk (blk_below BX.out hb); have HO := Aside0.mk (Kd.R_lower ho (below_size HB.out)); have nHB := Aside0.mk (below_step HB.out hb); clear BX HB ho hb; have BX := nBX; have HB := nHB; clear nBX nHB; have hx0 : w1.cell? ⟨gx, 0, none⟩ = some (.slice A0 l.length c0) := (blk_cell BX.out 0).trans rfl) | (go_at_call 59; refine (spec_RxOk.calls kx A0 c0 l true _ (Kd.C_below CN.out (by repeat (first | (with_reducible exact HB.out) | apply below_alloc | apply pw_below_drewN | apply below_drew1))) CL.out HX.out).mono ?_; rintro e w3 ⟨rfl, hb3⟩; have nBX := Aside0.mk (blk_below (by (with_reducible repeat (first | refine blk_drewN ?_ _ | refine blk_drew ?_)); exact BX.out) hb3); have nHB := Aside0.mk (below_step (by repeat (first | (with_reducible exact HB.out) | apply below_alloc | apply pw_below_drewN | apply below_drew1)) hb3); have nO := Aside0.mk (Kd.R_below (by (with_reducible repeat (first | apply Kd.R_alloc | apply Kd.R_drewN | apply Kd.R_drew)); exact HO.out) hb3); clear BX HB HO hb3; have BX := nBX; have HB := nHB; have HO := nO; clear nBX nHB nO; have hx0 : w3.cell? ⟨gx, 0, none⟩ = some (.slice A0 l.length c0) := (blk_cell BX.out 0).trans rfl) | (go_at_call 89; refine (spec_l1In.calls 0 0 0 true _ rfl).mono ?_; rintro e w4 ⟨rfl, ⟨nd, rfl⟩⟩))
    clear hx0
    replace BX := Aside0.mk (blk_drewN BX.out nd)
    replace HB := Aside0.mk (pw_below_drewN HB.out nd)
    replace HO := Aside0.mk (Kd.R_drewN HO.out nd)
    generalize hW : w3.drewN nd = W at *
    clear hW
    have BX1 := Aside0.mk (blk_drew BX.out)
    have HB1 := Aside0.mk (below_drew1 HB.out)
    have HO1 := Aside0.mk (Kd.R_drew HO.out)
    have hmul : wrap64 ((l.length : Int) * wrap64 1) = (l.length : Int) := by rw [wrap_id (x := 1) (by omega) (by omega), Int.mul_one]; exact wrap_id (by omega) (by omega)
    have hwl : IntKind.i64.wrap (l.length : Int) = (l.length : Int) := by rw [i64_w]; exact wrap_id (by omega) (by omega)
    refine start_ (n := 13) (S := fun w' => w'.cell? ⟨gx, 0, none⟩ = some (.slice A0 l.length c0)) (ds := []) #[false, false, false, false, false, false, false, false, false, false, false, false, false] (by kernel_rfl) rfl rfl (by exact (blk_cell BX.out 0).trans rfl) (fun hHeld => ?_)
    generalize hW1 : W.drew = W1 at BX1 HB1 HO1 hHeld ⊢
    refine pure_ (i := 1) (N := (some 29)) (v := ?_) (a' := ?_) #[false, true, false, false, false, false, false, false, false, false, false, false, false] rfl rfl (by kernel_rfl) (fun _ _ _ h => h) (Or.inl ⟨by rfl, ?_⟩) ?_ ?_
    rotate_left
    · intro w'
      go_simp
      with_reducible rfl
    rotate_left
    · simp only [Act.put, List.setIfInBounds_toArray, List.set_cons_zero, List.set_cons_succ, i64_w, i32_w]
      rfl
    refine pure_ (i := 2) (N := (some 30)) (v := ?_) (a' := ?_) #[false, true, true, false, false, false, false, false, false, false, false, false, false] rfl rfl (by kernel_rfl) (fun _ _ _ h => h) (Or.inl ⟨by rfl, ?_⟩) ?_ ?_
    rotate_left
    · intro w'
      go_simp
      with_reducible rfl
    rotate_left
    · simp only [Act.put, List.setIfInBounds_toArray, List.set_cons_zero, List.set_cons_succ, i64_w, i32_w]
      rfl
    refine pure_ (i := 5) (N := (some 33)) (v := ?_) (a' := ?_) #[false, true, true, false, false, true, false, false, false, false, false, false, false] rfl rfl (by kernel_rfl) (fun _ _ _ h => h) (Or.inl ⟨by rfl, ?_⟩) ?_ ?_
    rotate_left
    · intro w'
      go_simp
      with_reducible rfl
    rotate_left
    · simp only [Act.put, List.setIfInBounds_toArray, List.set_cons_zero, List.set_cons_succ, i64_w, i32_w]
      rfl
    refine pure_ (i := 6) (N := (some 34)) (v := ?_) (a' := ?_) #[false, true, true, false, false, true, true, false, false, false, false, false, false] rfl rfl (by kernel_rfl) (fun _ _ _ h => h) (Or.inl ⟨by rfl, ?_⟩) ?_ ?_
    rotate_left
    · intro w'
      go_simp
      with_reducible rfl
    rotate_left
    · simp only [Act.put, List.setIfInBounds_toArray, List.set_cons_zero, List.set_cons_succ, i64_w, i32_w]
      rfl
    refine pure_ (i := 7) (N := (some 35)) (v := ?_) (a' := ?_) #[false, true, true, false, false, true, true, true, false, false, false, false, false] rfl rfl (by kernel_rfl) (fun _ _ _ h => h) (Or.inl ⟨by rfl, ?_⟩) ?_ ?_
    rotate_left
    · intro w'
      go_simp
      with_reducible rfl
    rotate_left
    · simp only [Act.put, List.setIfInBounds_toArray, List.set_cons_zero, List.set_cons_succ, i64_w, i32_w]
      rfl
    refine take_ (i := 0) (N := (some 28)) (v := ?_) (a' := ?_) #[true, true, true, false, false, true, true, true, false, false, false, false, false] rfl rfl (by kernel_rfl) (fun _ _ _ h => h) (Or.inl ⟨by rfl, ?_⟩) hHeld ?_ ?_
    rotate_left
    · rintro w' s0
      go_simp
      with_reducible rfl
    rotate_left
    · simp only [Act.put, List.setIfInBounds_toArray, List.set_cons_zero, List.set_cons_succ, i64_w, i32_w]
      rfl
    refine take_ (i := 3) (N := (some 31)) (v := ?_) (a' := ?_) #[true, true, true, true, false, true, true, true, false, false, false, false, false] rfl rfl (by kernel_rfl) (fun _ _ _ h => h) (Or.inl ⟨by rfl, ?_⟩) hHeld ?_ ?_
    rotate_left
    · rintro w' s0
      go_simp
      with_reducible rfl
    rotate_left
    · simp only [Act.put, List.setIfInBounds_toArray, List.set_cons_zero, List.set_cons_succ, i64_w, i32_w]
      rfl
    refine pure_ (i := 4) (N := (some 32)) (v := ?_) (a' := ?_) #[true, true, true, true, true, true, true, true, false, false, false, false, false] rfl rfl (by kernel_rfl) (fun _ _ _ h => h) (Or.inl ⟨by rfl, ?_⟩) ?_ ?_
    rotate_left
    · intro w'
      go_simp
      with_reducible rfl
    rotate_left
    · simp only [Act.put, List.setIfInBounds_toArray, List.set_cons_zero, List.set_cons_succ, i64_w, i32_w]
      rfl
    refine pure_ (i := 8) (N := (some 36)) (v := ?_) (a' := ?_) #[true, true, true, true, true, true, true, true, true, false, false, false, false] rfl rfl (by kernel_rfl) (fun _ _ _ h => h) (Or.inl ⟨by rfl, ?_⟩) ?_ ?_
    rotate_left
    · intro w'
      go_simp
      with_reducible rfl
    rotate_left
    · simp only [Act.put, List.setIfInBounds_toArray, List.set_cons_zero, List.set_cons_succ, i64_w, i32_w]
      rfl
    refine one_ (i := 9) (N := (some 37)) #[true, true, true, true, true, true, true, true, true, true, false, false, false] rfl rfl (by kernel_rfl) (by decide) (fun K hK => ?_)
    rw [hmul]
    refine Kd.R_make_step (Kd.scalar (fun (_ : Unit) => Value.slice none 0 0) (fun _ => rfl)) (w0 := W1) W1.heap.size 124 (by rfl) (N := 37) rfl 162 _ _ rfl (l.length : Int) rfl rfl Try.underlying162 (.slice none 0 0) 24 (by kernel_rfl) rfl (by decide) (by omega) () (ok := fun _ => True) (okp := fun _ => True) rfl (fun _ hk => hk) trivial (by omega) (by simp; omega) (Below.refl _ _) (Nat.le_refl _) ?_
    intro v2 w2 ho hb hgr hat
    rw [Int.toNat_natCast] at ho
    obtain ⟨gg, cg, rfl, hgg0, _, cs, hC⟩ := Kd.R_form ho (by simp; omega)
    have hlen0 : (List.replicate l.length ()).length = l.length := by simp
    have hrow : ∀ k, k < l.length → cs[k]? = some (.slice none 0 0) := fun k hk => by have h := (Kd.R_cell () ho (k : Int) (by omega) (by rw [hlen0]; omega)).1; rw [Int.toNat_natCast, blk_cell hC k] at h; exact h
    rw [hlen0] at ho ⊢
    have hcg := (Kd.R_reads' ho).2.1
    have HO2 := Aside0.mk (Kd.R_below HO1.out hb)
    have HGG2 : Aside0 (w.heap.size ≤ gg) := ⟨Nat.le_trans HB1.out.size hgg0⟩
    have HB2 := Aside0.mk (below_step HB1.out hb)
    have BX2 := Aside0.mk (blk_below BX1.out hb)
    have HC := Aside0.mk hC
    have HRW := Aside0.mk hrow
    have HCG := Aside0.mk hcg
    have HGG := Aside0.mk hgg0
    refine hK.out _ _ (by exact (blk_cell BX2.out 0).trans rfl) (fun hHeld => ?_)
    clear hK K
    refine norm_ (a' := ?_) ?_ ?_
    rotate_left
    · show Act.put _ (some 37) _ = _
      simp only [Act.put, List.setIfInBounds_toArray, List.set_cons_zero, List.set_cons_succ, i64_w, i32_w]
      rfl
    refine pure_ (i := 10) (N := (some 38)) (v := ?_) (a' := ?_) #[true, true, true, true, true, true, true, true, true, true, true, false, false] rfl rfl (by kernel_rfl) (fun _ _ _ h => h) (Or.inl ⟨by rfl, ?_⟩) ?_ ?_
    rotate_left
    · intro w'
      go_simp
      with_reducible rfl
    rotate_left
    · simp only [Act.put, List.setIfInBounds_toArray, List.set_cons_zero, List.set_cons_succ, i64_w, i32_w]
      rfl
    refine one_ (i := 11) (N := (some 39)) #[true, true, true, true, true, true, true, true, true, true, true, true, false] rfl rfl (by kernel_rfl) (by decide) (fun K hK => ?_)
    refine value_ (w1 := ?_) (v := ?_) (by rfl) rfl ?_ ?_
    rotate_left 2
    · go_simp
      constructor
      · rfl
      · rfl
    refine hK.out _ _ (by exact (World.cell?_alloc_lt _ _ _ (World.block_lt_of_cell? _ _ hHeld)).trans hHeld) (fun hHeld => ?_)
    clear hK K
    refine norm_ (a' := ?_) ?_ ?_
    rotate_left
    · show Act.put _ (some 39) _ = _
      simp only [Act.put, List.setIfInBounds_toArray, List.set_cons_zero, List.set_cons_succ, i64_w, i32_w]
      rfl
    refine pure_ (i := 12) (N := (some 8)) (v := ?_) (a' := ?_) #[true, true, true, true, true, true, true, true, true, true, true, true, true] rfl rfl (by kernel_rfl) (fun _ _ _ h => h) (Or.inl ⟨by rfl, ?_⟩) ?_ ?_
    rotate_left
    · intro w'
      go_simp
      with_reducible rfl
    rotate_left
    · simp only [Act.put, List.setIfInBounds_toArray, List.set_cons_zero, List.set_cons_succ, i64_w, i32_w]
      rfl
    refine done_ (by kernel_rfl) ?_
    have hgm0 : w.heap.size ≤ w2.heap.size := HB2.out.size
    have HM : Aside0 (Memo w w2.heap.size gg A0 c0 l tx (nullE l) (w2.alloc (.cells #[.slice A0 l.length c0, .string tx, .slice (some ⟨gg, 0, none⟩) l.length cg] 164))) := ⟨⟨cg, cs, blk_new w2 _, HCG.out, hgm0, HGG2.out, blk_alloc HC.out _, fun k hk => ⟨_, HRW.out k hk, .inl rfl⟩⟩⟩
    have HB3 := Aside0.mk (below_alloc HB2.out (.cells #[.slice A0 l.length c0, .string tx, .slice (some ⟨gg, 0, none⟩) l.length cg] 164))
    have HO3 := Aside0.mk (Kd.R_alloc HO2.out (.cells #[.slice A0 l.length c0, .string tx, .slice (some ⟨gg, 0, none⟩) l.length cg] 164))
    have BX3 := Aside0.mk (blk_alloc BX2.out (.cells #[.slice A0 l.length c0, .string tx, .slice (some ⟨gg, 0, none⟩) l.length cg] 164))
    have HC3 := Aside0.mk (blk_alloc HC.out (.cells #[.slice A0 l.length c0, .string tx, .slice (some ⟨gg, 0, none⟩) l.length cg] 164))
    clear hC hrow hcg hgg0 ho hb hgr hat hHeld HB1 BX1 HO1 HB2 BX2 HO2 HC HRW HCG BX HB HO
    obtain ⟨gm, hgm⟩ : ∃ gm, w2.heap.size = gm := ⟨_, rfl⟩
    generalize hW3 : w2.alloc (.cells #[.slice A0 l.length c0, .string tx, .slice (some ⟨gg, 0, none⟩) l.length cg] 164) = W3 at *
    clear hW3
    simp only [hgm] at HM ⊢
    have hcalls := (ends_all (gm := gm) (gg := gg) (cn := c0) ht (by omega) CN.out hok l.length (l.length - 1) (by omega) (by omega)) W3 HM.out HB3.out
    rw [show ((l.length - 1 : Nat) : Int) = (l.length : Int) - 1 by omega] at hcalls
    have HCS := Aside0.mk hcalls
    have hx0 : W3.cell? ⟨gx, 0, none⟩ = some (.slice A0 l.length c0) := (blk_cell BX3.out 0).trans rfl
    have hws : IntKind.i64.wrap ((l.length : Int) - 1) = (l.length : Int) - 1 := by rw [i64_w]; exact wrap_id (by omega) (by omega)
    clear hcalls
    generalize nullE l (l.length - 1) = b at *
    go_wp2_with (go_at_call 121; refine HCS.out.mono ?_; rintro e w5 ⟨v5, rfl, hR5, hM5, hK5, hB5⟩; obtain ⟨g5, c5, rfl, hc5⟩ := Row.form hR5; have HR5 := Aside0.mk hR5; have HB5 := Aside0.mk hB5; have HO5 := Aside0.mk (Kd.R_mono (Kd.R_step (Kd.R_types HO3.out HC3.out (by decide)) (fun k ho hlt => hK5.2 k hlt ho.2)) (ok' := fun _ => True) (fun _ _ => trivial)); clear hR5 hM5 hK5 hB5)
    go_loopg [7, 10] 2 (fun gk_ v7 v10 wr => ∃ (kk : Nat), v10 = .int .i64 (kk : Int) ∧ kk ≤ 1 ∧ 2 - kk ≤ gk_ ∧ Aside0 (Kd.R (Kd.int .i64) 2 wr w.heap.size (fun _ => True) v7 (if kk = 0 then [] else if b then [0] else [])) ∧ Aside0 (kk = 0 → Row w wr gg (.slice (some ⟨g5, 0, none⟩) 1 c5) b) ∧ Aside0 (Below w.heap.size w wr))
    case atStart => exact ⟨0, rfl, by omega, by omega, ⟨by simpa using HO5.out⟩, ⟨fun _ => HR5.out⟩, HB5⟩
    case round =>
      clear HO5 HR5 HB5
      obtain ⟨kk, rfl, hkk, hgk, HO, HR, HB⟩ := hrel
      obtain rfl | rfl : kk = 0 ∨ kk = 1 := by omega
      · have hx5 := Row.cell (HR.out rfl)
        replace HO : Aside0 (Kd.R (Kd.int .i64) 2 wr w.heap.size (fun _ => True) u7 []) := ⟨by simpa using HO.out⟩
        obtain ⟨A7, c7, rfl⟩ := Kd.R_slice HO.out
        rw [show ([] : List Int).length = 0 from rfl] at HO ⊢
        clear HR
        cases b with
        | false =>
          go_wp2_with fail
          go_roundg 1
          case measure => omega
          case rel => exact ⟨1, rfl, by omega, by omega, ⟨by simpa using HO.out⟩, ⟨fun h => absurd h (by omega)⟩, HB⟩
        | true =>
          go_wp2_with ((with_reducible refine gate_builtin (b := .append) (xs := #[.tmp 57, .tmp 59]) rfl ?_); at_builtin; refine Kd.R_append (Kd.int .i64) (w0 := w) w.heap.size rfl (.tmp 57) (.tmp 59) 56 2 (.int .i64 0) 8 rfl Try.underlying56 (by kernel_rfl) rfl (by decide) (by omega) (.slice A7 0 c7) ([] : List Int) 0 [.int .i64 0] (fun _ => True) (fun _ => False) rfl rfl ?aP (fun _ hk => hk.elim) (fun _ _ => trivial) HO.out HB.out (below_size HB.out) (by simp) ?_; (case aP => exact rfl); intro v8 w8 ho hb hgr hat; have HO8 := Aside0.mk ho; have HB8 := Aside0.mk hb; clear ho hb hgr hat)
          go_roundg 1
          case measure => omega
          case rel => exact ⟨1, rfl, by omega, by omega, ⟨by simpa using HO8.out⟩, ⟨fun h => absurd h (by omega)⟩, HB8⟩
      · go_wp2_with fail
        go_ret
        first | exact ⟨_, rfl, by rw [← HRES.out]; simpa using HO.out, HB.out⟩ | (subst hgx; exact ⟨_, rfl, by rw [← HRES.out]; simpa using HO.out, HB.out⟩)
end Go.Proofs.Ytijmhelacmjggaa.P
namespace Go.Proofs.Ytijmhelacmjggaa.P
open Go.RowKit Go.Proofs.YtijmhelacmjggaaW.PrintWords Go.Proofs.YtijmhelacmjggaaW.PrintLast Go.Proofs.YtijmhelacmjggaaW.PrintMore
attribute [local go_sem] max2_int min2_int max_two min_two max_three min_three max_four min_four
set_option linter.unusedVariables false
set_option linter.unusedSimpArgs false
/-! ### spec_l1Has: function 66 -/
def spec_l1Has.l0 : Nat → List Int → Int → Int → Option (Bool)
 | 0, _, _, _ => none
 | k + 1, x0, x1, x5 => if x5 < (x0.length : Int) then (if 0 ≤ x5 then (if (rd x0 x5) = x1 then (some true) else (spec_l1Has.l0 k x0 x1 (wrap64 (x5 + 1)))) else (none)) else (some false)
def spec_l1Has.f (k : Nat) (l0 : List Int) (a1 : Int) : Option (Bool) := spec_l1Has.l0 k l0 a1 0
set_option maxHeartbeats 8000000 in
set_option maxRecDepth 100000 in
theorem spec_l1Has.calls (k : Nat) (A0 : Option Addr) (c0 : Nat) (l0 : List Int) (a1 : Int) (r : Bool) (w : World) (hr0 : Kd.C (Kd.int .i64) w A0 l0.length l0) (hc0 : l0.length ≤ c0) (h : spec_l1Has.f k l0 a1 = some r) :
  Calls Try.prog 66 #[.slice A0 l0.length c0, .int .i64 a1] w fun e w' => e = .returned (.bool r) ∧ Drawn0 w w' := by
 have HR0 := Aside0.mk hr0
 have HC0 := Aside0.mk hc0
 clear hr0 hc0
 have H : (spec_l1Has.l0 k l0 a1 0) = some r := h
 clear h
 have H' := Aside0.mk H
 clear H
 go_enter Try.func66, Try.ntmps66
 go_wp2
 go_loopg [5] k (fun kq v5 w' => ∃ (x5_1 : Int), v5 = .int .i64 x5_1 ∧ Aside0 (spec_l1Has.l0 kq l0 a1 x5_1 = some r) ∧ Aside0 (kq ≤ k) ∧ Drawn0 w w')
 case atStart => exact ⟨(0), rs_, H', ⟨Nat.le_refl _⟩, by repeat (first | exact Drawn0.refl _ | apply Drawn0.step)⟩
 case round =>
  clear H'
  obtain ⟨x5_1, rfl, HA, HK1, ⟨m1, rfl⟩⟩ := hrel
  cases gk with
  | zero => exact absurd HA.out (by simp [spec_l1Has.l0])
  | succ k1 =>
   have H := HA.out
   clear HA
   simp only [spec_l1Has.l0] at H
   by_cases c3 : x5_1 < (l0.length : Int)
   ·rw [if_pos c3] at H
    have c3b0 := decide_eq_true c3
    clear c3
    by_cases c4 : 0 ≤ x5_1
    ·rw [if_pos c4] at H
     have c4b0 := decide_eq_true c4
     clear c4
     by_cases c5 : (rd l0 x5_1) = a1
     ·rw [if_pos c5] at H
      have c5b0 : ((rd l0 x5_1) == a1) = true := beq_iff_eq.mpr c5
      have c5b1 : ((rd l0 x5_1) != a1) = false := bne_eq_false_iff_eq.mpr c5
      clear c5
      obtain rfl := Option.some.inj H
      have p101 : 0 ≤ (x5_1 : Int) := of_decide_eq_true as_
      have q101 : x5_1 < (l0.length : Int) := of_decide_eq_true as_
      obtain ⟨ad101, e101, hx101_0⟩ := Kd.at_int HR0.out x5_1 p101 q101
      cases e101
      replace p101 := eq_true p101
      replace q101 := eq_true q101
      go_wp2
      go_ret
      exact ⟨by first | rfl | (simp; done) | (simp [*]; done), by repeat (first | exact Drawn0.refl _ | apply Drawn0.step)⟩
     ·rw [if_neg c5] at H
      have c5b0 : ((rd l0 x5_1) == a1) = false := beq_eq_false_iff_ne.mpr c5
      have c5b1 : ((rd l0 x5_1) != a1) = true := bne_iff_ne.mpr c5
      have H' := Aside0.mk H
      clear H
      have p101 : 0 ≤ (x5_1 : Int) := of_decide_eq_true as_
      have q101 : x5_1 < (l0.length : Int) := of_decide_eq_true as_
      obtain ⟨ad101, e101, hx101_0⟩ := Kd.at_int HR0.out x5_1 p101 q101
      cases e101
      replace p101 := eq_true p101
      replace q101 := eq_true q101
      go_wp2
      go_roundg k1
      case measure => have := HK1.out; omega
      case rel => exact ⟨(wrap64 (x5_1 + 1)), rs_, H', ⟨by have := HK1.out; omega⟩, by repeat (first | exact Drawn0.refl _ | apply Drawn0.step)⟩
    ·rw [if_neg c4] at H
     exact absurd H (by simp)
   ·rw [if_neg c3] at H
    have c3b0 := decide_eq_false c3
    clear c3
    obtain rfl := Option.some.inj H
    go_wp2
    go_ret
    exact ⟨by first | rfl | (simp; done) | (simp [*]; done), by repeat (first | exact Drawn0.refl _ | apply Drawn0.step)⟩
end Go.Proofs.Ytijmhelacmjggaa.P
namespace Go.Proofs.Ytijmhelacmjggaa.P
open Go.RowKit Go.Shelf Go.Proofs.YtijmhelacmjggaaW.PrintWords Go.Proofs.YtijmhelacmjggaaW.PrintLast Go.Proofs.YtijmhelacmjggaaW.PrintMore Go.Proofs.YtijmhelacmjggaaEv
set_option linter.unusedVariables false
set_option linter.unusedSimpArgs false
theorem has_zero (b : Bool) : ∃ k, spec_l1Has.f k (if b then [0] else []) 0 = some b := by
  refine ⟨4, ?_⟩
  cases b <;> simp [spec_l1Has.f, spec_l1Has.l0, rd]
set_option maxHeartbeats 4000000 in
set_option maxRecDepth 100000 in
theorem nullable_hand (A0 : Option Addr) (c0 : Nat) (l : List S156) (w : World) (hn : l.length ≤ 1048576) (hr : Kd.C k156 w A0 l.length l) (hc : l.length ≤ c0) :
    Calls Try.prog 17 #[.agg #[.slice A0 l.length c0]] w fun e w' => e = .returned (.bool (rxB l && nullE l (l.length - 1))) ∧ Below w.heap.size w w' := by
  have hkl : ∀ x ∈ l, x.f2.length ≤ 9223372036854775807 := by
    intro x hx
    obtain ⟨i, hi, rfl⟩ := List.getElem_of_mem hx
    obtain ⟨_, _, _, _, _, _, _, _, _, _, _, _, _, _, h⟩ := at_T156 hr (i : Int) (by omega) (by omega)
    have h2 := h.2.1
    have e : rd_T156 l (i : Int) = l[i] := by simp [rd_T156, hi]
    rw [e] at h2
    exact h2
  have HB := Aside0.mk (below_alloc (Below.refl w.heap.size w) (.cells #[.slice A0 l.length c0] 29))
  have HC := Aside0.mk (endsAt_hand A0 c0 l (w.alloc (.cells #[.slice A0 l.length c0] 29)) hn hkl (Kd.C_below hr HB.out) hc)
  generalize (rxB l && nullE l (l.length - 1)) = b at *
  have HZ := has_zero b
  generalize (if b then [0] else [] : List Int) = lst at *
  obtain ⟨k_, hk_⟩ := HZ
  have HZ := Aside0.mk hk_
  clear hkl hr hc hk_
  go_enter Try.func17, Try.ntmps17
  go_wp2_with (first | (go_at_call 67; refine HC.out.mono ?_; rintro e w1 ⟨v1, rfl, ho, hb⟩; obtain ⟨A1, c1, rfl⟩ := Kd.R_slice ho; have HO := Aside0.mk ho; have HB1 := Aside0.mk (below_step HB.out hb); clear ho hb) | (go_at_call 66; refine (spec_l1Has.calls k_ A1 c1 lst 0 b _ (Kd.R_reads' HO.out).2.2 (Kd.R_reads' HO.out).2.1 HZ.out).mono ?_; rintro e w2 ⟨rfl, ⟨nd, rfl⟩⟩))
  go_ret
  exact ⟨rfl, by repeat (first | (with_reducible exact HB1.out) | apply pw_below_drewN | apply below_drew1)⟩
end Go.Proofs.Ytijmhelacmjggaa.P
namespace Go.Proofs.Ytijmhelacmjggaa.P
open Go.RowKit Go.Proofs.YtijmhelacmjggaaW.PrintWords Go.Proofs.YtijmhelacmjggaaW.PrintLast Go.Proofs.YtijmhelacmjggaaW.PrintMore
attribute [local go_sem] max2_int min2_int max_two min_two max_three min_three max_four min_four
set_option linter.unusedVariables false
set_option linter.unusedSimpArgs false
/-! ### spec_Nullable: function 17 -/
def spec_Nullable.f (l0_0 : List (S156)) : Option (Bool) := if l0_0.length ≤ 1048576 then some (rxB l0_0 && nullE l0_0 (l0_0.length - 1)) else none
theorem spec_Nullable.calls (A0_0 : Option Addr) (c0_0 : Nat) (l0_0 : List (S156)) (r : Bool) (w : World) (hr0_0 : Kd.C k156 w A0_0 l0_0.length l0_0) (hc0_0 : l0_0.length ≤ c0_0) (h : spec_Nullable.f l0_0 = some r) :
    Calls Try.prog 17 #[.agg #[.slice A0_0 l0_0.length c0_0]] w fun e w' => e = .returned (.bool r) ∧ Below w.heap.size w w' := by
  unfold spec_Nullable.f at h
  by_cases hp : l0_0.length ≤ 1048576
  · rw [if_pos hp] at h
    obtain rfl := Option.some.inj h
    exact nullable_hand A0_0 c0_0 l0_0 w hp hr0_0 hc0_0
  · rw [if_neg hp] at h
    exact absurd h (by simp)
/-! ### spec_l5Rule: function 77 -/
def spec_l5Rule.j0 : Nat → Bool → List (S108) → ByteArray → List (S156) → Bool → Int → ByteArray → Option (Bool)
 | 0, _, _, _, _, _, _, _ => none
 | k + 1, x25, x102000, x103000, x103001, x103002, x103003, x103004 => if x25 = true then (some false) else (if x103003 = 1 then ((spec_ModeAt.f k x102000 x103004).bind fun t107 => (some (decide (t107 ≥ 0)))) else (if x103003 = 2 then ((spec_ModeAt.f k x102000 x103004).bind fun t108 => (some (decide (t108 ≥ 0)))) else (some (x103004.toList == ([] : List UInt8)))))
def spec_l5Rule.f (k : Nat) (l0_0 : List (S108)) (a1_0 : ByteArray) (l1_1 : List (S156)) (a1_2 : Bool) (a1_3 : Int) (a1_4 : ByteArray) : Option (Bool) := (spec_l1Name.f k a1_0).bind fun t103 => (if t103 = true then ((spec_RxOk.f k l1_1).bind fun t104 => (if t104 = true then ((spec_Nullable.f l1_1).bind fun t105 => (if t105 = true then (spec_l5Rule.j0 k true l0_0 a1_0 l1_1 a1_2 a1_3 a1_4) else ((spec_l1In.f a1_3 0 3).bind fun t106 => (spec_l5Rule.j0 k (!t106) l0_0 a1_0 l1_1 a1_2 a1_3 a1_4)))) else (spec_l5Rule.j0 k true l0_0 a1_0 l1_1 a1_2 a1_3 a1_4))) else (spec_l5Rule.j0 k true l0_0 a1_0 l1_1 a1_2 a1_3 a1_4))
set_option maxHeartbeats 8000000 in
set_option maxRecDepth 100000 in
theorem spec_l5Rule.calls (k : Nat) (A0_0 : Option Addr) (c0_0 : Nat) (l0_0 : List (S108)) (a1_0 : ByteArray) (A1_1 : Option Addr) (c1_1 : Nat) (l1_1 : List (S156)) (a1_2 : Bool) (a1_3 : Int) (a1_4 : ByteArray) (r : Bool) (w : World) (hr0_0 : Kd.C k108 w A0_0 l0_0.length l0_0) (hc0_0 : l0_0.length ≤ c0_0) (hr1_1 : Kd.C k156 w A1_1 l1_1.length l1_1) (hc1_1 : l1_1.length ≤ c1_1) (h : spec_l5Rule.f k l0_0 a1_0 l1_1 a1_2 a1_3 a1_4 = some r) :
  Calls Try.prog 77 #[.agg #[.slice A0_0 l0_0.length c0_0], .agg #[.string a1_0, .slice A1_1 l1_1.length c1_1, .bool a1_2, .int .i64 a1_3, .string a1_4]] w fun e w' => e = .returned (.bool r) ∧ Below w.heap.size w w' := by
 have hu46 := Try.underlying46
 have hu113 := Try.underlying113
 have hu29 := Try.underlying29
 have HR0_0 := Aside0.mk hr0_0
 have HC0_0 := Aside0.mk hc0_0
 clear hr0_0 hc0_0
 have HR1_1 := Aside0.mk hr1_1
 have HC1_1 := Aside0.mk hc1_1
 clear hr1_1 hc1_1
 have HB := Aside0.mk (Below.refl w.heap.size w)
 have H : ((spec_l1Name.f k a1_0).bind fun t103 => (if t103 = true then ((spec_RxOk.f k l1_1).bind fun t104 => (if t104 = true then ((spec_Nullable.f l1_1).bind fun t105 => (if t105 = true then (spec_l5Rule.j0 k true l0_0 a1_0 l1_1 a1_2 a1_3 a1_4) else ((spec_l1In.f a1_3 0 3).bind fun t106 => (spec_l5Rule.j0 k (!t106) l0_0 a1_0 l1_1 a1_2 a1_3 a1_4)))) else (spec_l5Rule.j0 k true l0_0 a1_0 l1_1 a1_2 a1_3 a1_4))) else (spec_l5Rule.j0 k true l0_0 a1_0 l1_1 a1_2 a1_3 a1_4))) = some r := h
 clear h
 have HC3 := Aside0.mk H
 clear H
 go_enter Try.func77, Try.ntmps77
 go_upto_region 1 with (first | ((with_reducible refine gate_dst (N := 2) rfl ?_); refine bx_ 2 #[.slice A0_0 l0_0.length c0_0] 46 ?_; intro gb101 hg w4 hbox hb; have BK101 := Aside0.mk (hbox); have GW101 := ge_ hg HB; have GE101 := GW101; replace HB := sb_ HB hb; clear hb hbox hg) | ((with_reducible refine gate_dst (N := 3) rfl ?_); refine bx_ 3 #[.string a1_0, .slice A1_1 l1_1.length c1_1, .bool a1_2, .int .i64 a1_3, .string a1_4] 113 ?_; intro gb102 hg w5 hbox hb; have BK102 := Aside0.mk (hbox); have GW102 := ge1_ hg HB GE101; have GE102 := GW102; have NB101_102 := nl_ hg BK101; have NB102_101 := ng_ hg BK101; replace BK101 := lb_ BK101 hb; replace HB := sb1_ HB GE101 hb; clear hb hbox hg))
 (try simp only [Act.put, List.setIfInBounds_toArray, List.set_cons_zero, List.set_cons_succ])
 go_cut [25] (fun v25 wc => ∃ (kq : Nat) (x25_2 : Bool), v25 = .bool x25_2 ∧ Aside0 (spec_l5Rule.j0 kq x25_2 l0_0 a1_0 l1_1 a1_2 a1_3 a1_4 = some r) ∧ Aside0 (kq ≤ k) ∧ Aside0 (wc.heap[gb101]? = some (.cells #[(.slice A0_0 l0_0.length c0_0)] 46 (0, 0))) ∧ Aside0 (wc.heap[gb102]? = some (.cells #[.string a1_0, (.slice A1_1 l1_1.length c1_1), .bool a1_2, .int .i64 a1_3, .string a1_4] 113 (0, 0))) ∧ Aside0 (Below w.heap.size w wc))
 case first =>
  have H := HC3.out
  clear HC3
  obtain ⟨t103, A6, H⟩ := ob_ H
  by_cases c7 : t103 = true
  ·subst c7
   rw [if_pos rfl] at H
   obtain ⟨t104, A8, H⟩ := ob_ H
   by_cases c9 : t104 = true
   ·subst c9
    rw [if_pos rfl] at H
    obtain ⟨t105, A10, H⟩ := ob_ H
    by_cases c11 : t105 = true
    ·subst c11
     rw [if_pos rfl] at H
     have H' := Aside0.mk H
     clear H
     have hnb12 := NB102_101.out
     have hnc12 := NB101_102.out
     obtain ⟨hcz13_0, hcz13_1, hcz13_2, hcz13_3, hcz13_4, hfz13_0, hfz13_1, hfz13_2, hfz13_3, hfz13_4⟩ := d5_ BK102
     go_wp2_with (first | ((with_reducible refine gate_callee (f := 75) rfl ?_); refine gl_ (some 7) rfl rfl Try.func75 #[.string a1_0] ?_; (with_reducible refine (spec_l1Name.calls k a1_0 true _ A6.out).mono ?_); rintro e w' ⟨rfl, ⟨nd, rfl⟩⟩; refine ⟨_, rfl, ?_⟩) | (go_at_call 59; (with_reducible refine (spec_RxOk.calls k _ _ l1_1 true _ ?side1 ?side2 A8.out).mono ?_); (case side1 => repeat (first | exact (Kd.C_below HR1_1.out (be2_ HB.out GE101.out GE102.out)) | (with_reducible refine Kd.C_alloc ?_ _) | (with_reducible refine Kd.C_drewN ?_ _) | (with_reducible refine Kd.C_drew ?_))); (case side2 => exact HC1_1.out); rintro e w14 ⟨rfl, hb⟩; replace BK101 := lb_ BK101 hb; replace BK102 := lb_ BK102 hb; replace HB := sb2_ HB GE101 GE102 hb; (try clear hb); obtain ⟨hcz15_0, hcz15_1, hcz15_2, hcz15_3, hcz15_4, hfz15_0, hfz15_1, hfz15_2, hfz15_3, hfz15_4⟩ := d5_ BK102) | (go_at_call 17; (with_reducible refine (spec_Nullable.calls _ _ l1_1 true _ ?side1 ?side2 A10.out).mono ?_); (case side1 => exact Kd.C_below HR1_1.out (be_ HB.out)); (case side2 => exact HC1_1.out); rintro e w16 ⟨rfl, hb⟩; replace BK101 := lb_ BK101 hb; replace BK102 := lb_ BK102 hb; replace HB := sb2_ HB GE101 GE102 hb; (try clear hb)))
     go_meet
     case rel => exact ⟨_, (true), rs_, H', ⟨by first | omega | exact Nat.le_refl _⟩, ⟨bk_ BK101.out⟩, ⟨bk_ BK102.out⟩, ⟨be2_ HB.out GE101.out GE102.out⟩⟩
    ·replace c11 := Bool.eq_false_iff.mpr c11
     subst c11
     rw [if_neg nft_] at H
     obtain ⟨t106, A17, H⟩ := ob_ H
     have H' := Aside0.mk H
     clear H
     have hnb18 := NB102_101.out
     have hnc18 := NB101_102.out
     obtain ⟨hcz19_0, hcz19_1, hcz19_2, hcz19_3, hcz19_4, hfz19_0, hfz19_1, hfz19_2, hfz19_3, hfz19_4⟩ := d5_ BK102
     go_wp2_with (first | ((with_reducible refine gate_callee (f := 75) rfl ?_); refine gl_ (some 7) rfl rfl Try.func75 #[.string a1_0] ?_; (with_reducible refine (spec_l1Name.calls k a1_0 true _ A6.out).mono ?_); rintro e w' ⟨rfl, ⟨nd, rfl⟩⟩; refine ⟨_, rfl, ?_⟩) | (go_at_call 59; (with_reducible refine (spec_RxOk.calls k _ _ l1_1 true _ ?side1 ?side2 A8.out).mono ?_); (case side1 => repeat (first | exact (Kd.C_below HR1_1.out (be2_ HB.out GE101.out GE102.out)) | (with_reducible refine Kd.C_alloc ?_ _) | (with_reducible refine Kd.C_drewN ?_ _) | (with_reducible refine Kd.C_drew ?_))); (case side2 => exact HC1_1.out); rintro e w20 ⟨rfl, hb⟩; replace BK101 := lb_ BK101 hb; replace BK102 := lb_ BK102 hb; replace HB := sb2_ HB GE101 GE102 hb; (try clear hb); obtain ⟨hcz21_0, hcz21_1, hcz21_2, hcz21_3, hcz21_4, hfz21_0, hfz21_1, hfz21_2, hfz21_3, hfz21_4⟩ := d5_ BK102) | (go_at_call 17; (with_reducible refine (spec_Nullable.calls _ _ l1_1 false _ ?side1 ?side2 A10.out).mono ?_); (case side1 => exact Kd.C_below HR1_1.out (be_ HB.out)); (case side2 => exact HC1_1.out); rintro e w22 ⟨rfl, hb⟩; replace BK101 := lb_ BK101 hb; replace BK102 := lb_ BK102 hb; replace HB := sb2_ HB GE101 GE102 hb; (try clear hb); obtain ⟨hcz23_0, hcz23_1, hcz23_2, hcz23_3, hcz23_4, hfz23_0, hfz23_1, hfz23_2, hfz23_3, hfz23_4⟩ := d5_ BK102) | (go_at_call 89; (with_reducible refine (spec_l1In.calls a1_3 0 3 t106 _ A17.out).mono ?_); rintro e w' ⟨rfl, ⟨nd, rfl⟩⟩))
     go_meet
     case rel => exact ⟨_, (!t106), rs_, H', ⟨by first | omega | exact Nat.le_refl _⟩, ⟨bk_ BK101.out⟩, ⟨bk_ BK102.out⟩, ⟨be2_ HB.out GE101.out GE102.out⟩⟩
   ·replace c9 := Bool.eq_false_iff.mpr c9
    subst c9
    rw [if_neg nft_] at H
    have H' := Aside0.mk H
    clear H
    have hnb24 := NB102_101.out
    have hnc24 := NB101_102.out
    obtain ⟨hcz25_0, hcz25_1, hcz25_2, hcz25_3, hcz25_4, hfz25_0, hfz25_1, hfz25_2, hfz25_3, hfz25_4⟩ := d5_ BK102
    go_wp2_with (first | ((with_reducible refine gate_callee (f := 75) rfl ?_); refine gl_ (some 7) rfl rfl Try.func75 #[.string a1_0] ?_; (with_reducible refine (spec_l1Name.calls k a1_0 true _ A6.out).mono ?_); rintro e w' ⟨rfl, ⟨nd, rfl⟩⟩; refine ⟨_, rfl, ?_⟩) | (go_at_call 59; (with_reducible refine (spec_RxOk.calls k _ _ l1_1 false _ ?side1 ?side2 A8.out).mono ?_); (case side1 => repeat (first | exact (Kd.C_below HR1_1.out (be2_ HB.out GE101.out GE102.out)) | (with_reducible refine Kd.C_alloc ?_ _) | (with_reducible refine Kd.C_drewN ?_ _) | (with_reducible refine Kd.C_drew ?_))); (case side2 => exact HC1_1.out); rintro e w26 ⟨rfl, hb⟩; replace BK101 := lb_ BK101 hb; replace BK102 := lb_ BK102 hb; replace HB := sb2_ HB GE101 GE102 hb; (try clear hb)))
    go_meet
    case rel => exact ⟨_, (true), rs_, H', ⟨by first | omega | exact Nat.le_refl _⟩, ⟨bk_ BK101.out⟩, ⟨bk_ BK102.out⟩, ⟨be2_ HB.out GE101.out GE102.out⟩⟩
  ·replace c7 := Bool.eq_false_iff.mpr c7
   subst c7
   rw [if_neg nft_] at H
   have H' := Aside0.mk H
   clear H
   have hnb27 := NB102_101.out
   have hnc27 := NB101_102.out
   obtain ⟨hcz28_0, hcz28_1, hcz28_2, hcz28_3, hcz28_4, hfz28_0, hfz28_1, hfz28_2, hfz28_3, hfz28_4⟩ := d5_ BK102
   go_wp2_with (first | ((with_reducible refine gate_callee (f := 75) rfl ?_); refine gl_ (some 7) rfl rfl Try.func75 #[.string a1_0] ?_; (with_reducible refine (spec_l1Name.calls k a1_0 false _ A6.out).mono ?_); rintro e w' ⟨rfl, ⟨nd, rfl⟩⟩; refine ⟨_, rfl, ?_⟩))
   go_meet
   case rel => exact ⟨_, (true), rs_, H', ⟨by first | omega | exact Nat.le_refl _⟩, ⟨bk_ BK101.out⟩, ⟨bk_ BK102.out⟩, ⟨be2_ HB.out GE101.out GE102.out⟩⟩
 case rest =>
  clear HC3
  try clear c7
  try clear c9
  try clear c11
  try clear hcz13_0
  try clear hcz13_1
  try clear hcz13_2
  try clear hcz13_3
  try clear hcz13_4
  try clear hcz15_0
  try clear hcz15_1
  try clear hcz15_2
  try clear hcz15_3
  try clear hcz15_4
  try clear hcz19_0
  try clear hcz19_1
  try clear hcz19_2
  try clear hcz19_3
  try clear hcz19_4
  try clear hcz21_0
  try clear hcz21_1
  try clear hcz21_2
  try clear hcz21_3
  try clear hcz21_4
  try clear hcz23_0
  try clear hcz23_1
  try clear hcz23_2
  try clear hcz23_3
  try clear hcz23_4
  try clear hcz25_0
  try clear hcz25_1
  try clear hcz25_2
  try clear hcz25_3
  try clear hcz25_4
  try clear hcz28_0
  try clear hcz28_1
  try clear hcz28_2
  try clear hcz28_3
  try clear hcz28_4
  try clear hfz13_0
  try clear hfz13_1
  try clear hfz13_2
  try clear hfz13_3
  try clear hfz13_4
  try clear hfz15_0
  try clear hfz15_1
  try clear hfz15_2
  try clear hfz15_3
  try clear hfz15_4
  try clear hfz19_0
  try clear hfz19_1
  try clear hfz19_2
  try clear hfz19_3
  try clear hfz19_4
  try clear hfz21_0
  try clear hfz21_1
  try clear hfz21_2
  try clear hfz21_3
  try clear hfz21_4
  try clear hfz23_0
  try clear hfz23_1
  try clear hfz23_2
  try clear hfz23_3
  try clear hfz23_4
  try clear hfz25_0
  try clear hfz25_1
  try clear hfz25_2
  try clear hfz25_3
  try clear hfz25_4
  try clear hfz28_0
  try clear hfz28_1
  try clear hfz28_2
  try clear hfz28_3
  try clear hfz28_4
  obtain ⟨kq, x25_2, rfl, HA, HJ2, BK101, BK102, HB⟩ := hcut
  cases kq with
  | zero => exact absurd HA.out (by simp [spec_l5Rule.j0])
  | succ kj2 =>
   have H := HA.out
   clear HA
   simp only [spec_l5Rule.j0] at H
   by_cases c29 : x25_2 = true
   ·subst c29
    rw [if_pos rfl] at H
    obtain rfl := Option.some.inj H
    go_wp2
    go_ret
    exact ⟨rt_, be2_ HB.out GE101.out GE102.out⟩
   ·replace c29 := Bool.eq_false_iff.mpr c29
    subst c29
    rw [if_neg nft_] at H
    by_cases c30 : a1_3 = 1
    ·rw [if_pos c30] at H
     have c30b0 : (a1_3 == 1) = true := beq_iff_eq.mpr c30
     have c30b1 : (a1_3 != 1) = false := bne_eq_false_iff_eq.mpr c30
     clear c30
     obtain ⟨t107, A31, H⟩ := ob_ H
     obtain rfl := Option.some.inj H
     have hnb32 := NB102_101.out
     have hnc32 := NB101_102.out
     obtain ⟨hcz33_0, hcz33_1, hcz33_2, hcz33_3, hcz33_4, hfz33_0, hfz33_1, hfz33_2, hfz33_3, hfz33_4⟩ := d5_ BK102
     obtain ⟨hcz34_0, hfz34_0⟩ := d1_ BK101
     go_wp2_with (first | ((with_reducible refine gate_callee (f := 76) rfl ?_); refine gl_ (some 37) rfl rfl Try.func76 #[.agg #[.slice A0_0 l0_0.length c0_0], .string a1_4] ?_; (with_reducible refine (spec_ModeAt.calls kj2 _ _ l0_0 a1_4 t107 _ ?side1 ?side2 A31.out).mono ?_); (case side1 => exact Kd.C_below HR0_0.out (be_ HB.out)); (case side2 => exact HC0_0.out); rintro e w35 ⟨rfl, hb⟩; refine ⟨_, rfl, ?_⟩; replace BK101 := lb_ BK101 hb; replace BK102 := lb_ BK102 hb; replace HB := sb2_ HB GE101 GE102 hb; (try clear hb)))
     go_ret
     exact ⟨rt_, be2_ HB.out GE101.out GE102.out⟩
    ·rw [if_neg c30] at H
     have c30b0 : (a1_3 == 1) = false := beq_eq_false_iff_ne.mpr c30
     have c30b1 : (a1_3 != 1) = true := bne_iff_ne.mpr c30
     by_cases c36 : a1_3 = 2
     ·rw [if_pos c36] at H
      have c36b0 : (a1_3 == 2) = true := beq_iff_eq.mpr c36
      have c36b1 : (a1_3 != 2) = false := bne_eq_false_iff_eq.mpr c36
      clear c36
      obtain ⟨t108, A37, H⟩ := ob_ H
      obtain rfl := Option.some.inj H
      have hnb38 := NB102_101.out
      have hnc38 := NB101_102.out
      obtain ⟨hcz39_0, hcz39_1, hcz39_2, hcz39_3, hcz39_4, hfz39_0, hfz39_1, hfz39_2, hfz39_3, hfz39_4⟩ := d5_ BK102
      obtain ⟨hcz40_0, hfz40_0⟩ := d1_ BK101
      go_wp2_with (first | ((with_reducible refine gate_callee (f := 76) rfl ?_); refine gl_ (some 37) rfl rfl Try.func76 #[.agg #[.slice A0_0 l0_0.length c0_0], .string a1_4] ?_; (with_reducible refine (spec_ModeAt.calls kj2 _ _ l0_0 a1_4 t108 _ ?side1 ?side2 A37.out).mono ?_); (case side1 => exact Kd.C_below HR0_0.out (be_ HB.out)); (case side2 => exact HC0_0.out); rintro e w41 ⟨rfl, hb⟩; refine ⟨_, rfl, ?_⟩; replace BK101 := lb_ BK101 hb; replace BK102 := lb_ BK102 hb; replace HB := sb2_ HB GE101 GE102 hb; (try clear hb)))
      go_ret
      exact ⟨rt_, be2_ HB.out GE101.out GE102.out⟩
     ·rw [if_neg c36] at H
      have c36b0 : (a1_3 == 2) = false := beq_eq_false_iff_ne.mpr c36
      have c36b1 : (a1_3 != 2) = true := bne_iff_ne.mpr c36
      obtain rfl := Option.some.inj H
      have hnb42 := NB102_101.out
      have hnc42 := NB101_102.out
      obtain ⟨hcz43_0, hcz43_1, hcz43_2, hcz43_3, hcz43_4, hfz43_0, hfz43_1, hfz43_2, hfz43_3, hfz43_4⟩ := d5_ BK102
      go_wp2
      go_ret
      exact ⟨rt_, be2_ HB.out GE101.out GE102.out⟩
/-! ### spec_GrammarOk: function 26 -/
mutual
def spec_GrammarOk.j0 : Nat → Bool → List (S108) → Option (Bool)
 | 0, _, _ => none
 | k + 1, x15, x102000 => if x15 = true then (some false) else (spec_GrammarOk.l0 k 0 x102000)
def spec_GrammarOk.l0 : Nat → Int → List (S108) → Option (Bool)
 | 0, _, _ => none
 | k + 1, x3, x102000 => if x3 < (x102000.length : Int) then (if 0 ≤ x3 then ((spec_l1Name.f k ((rd_T108 x102000 x3).f0)).bind fun t104 => (if t104 = true then ((spec_ModeAt.f k x102000 ((rd_T108 x102000 x3).f0)).bind fun t105 => (if t105 = x3 then (if (((rd_T108 x102000 x3).f1).length : Int) < 1 then (spec_GrammarOk.j2 k x3 true x102000 ((rd_T108 x102000 x3).f0) ((rd_T108 x102000 x3).f1)) else (spec_GrammarOk.j2 k x3 (decide ((((rd_T108 x102000 x3).f1).length : Int) > 40)) x102000 ((rd_T108 x102000 x3).f0) ((rd_T108 x102000 x3).f1))) else (spec_GrammarOk.j2 k x3 true x102000 ((rd_T108 x102000 x3).f0) ((rd_T108 x102000 x3).f1)))) else (spec_GrammarOk.j2 k x3 true x102000 ((rd_T108 x102000 x3).f0) ((rd_T108 x102000 x3).f1)))) else (none)) else (some true)
def spec_GrammarOk.j2 : Nat → Int → Bool → List (S108) → ByteArray → List (S113) → Option (Bool)
 | 0, _, _, _, _, _ => none
 | k + 1, x3, x51, x102000, x104000, x104001 => if x51 = true then (some false) else (spec_GrammarOk.l1 k x3 0 x102000 x104000 x104001)
def spec_GrammarOk.l1 : Nat → Int → Int → List (S108) → ByteArray → List (S113) → Option (Bool)
 | 0, _, _, _, _, _ => none
 | k + 1, x3, x5, x102000, x104000, x104001 => if x5 < (x104001.length : Int) then (if 0 ≤ x5 then ((spec_l5Rule.f k x102000 ((rd_T113 x104001 x5).f0) ((rd_T113 x104001 x5).f1.f0) ((rd_T113 x104001 x5).f2) ((rd_T113 x104001 x5).f3) ((rd_T113 x104001 x5).f4)).bind fun t107 => (if t107 = true then (spec_GrammarOk.l1 k x3 (wrap64 (x5 + 1)) x102000 x104000 x104001) else (some false))) else (none)) else (spec_GrammarOk.l0 k (wrap64 (x3 + 1)) x102000)
end
def spec_GrammarOk.f (k : Nat) (l0_0 : List (S108)) : Option (Bool) := if (l0_0.length : Int) < 1 then (spec_GrammarOk.j0 k true l0_0) else (spec_GrammarOk.j0 k (decide ((l0_0.length : Int) > 12)) l0_0)
def spec_GrammarOk.T12 : Bool × List (List Nat × List Nat) := (true, [([], []), ([], []), ([1], [1]), ([], []), ([2, 3], [2, 3]), ([4], [4]), ([0, 5], [0, 5]), ([6], [6])])
def spec_GrammarOk.B12 : List Nat := [0, 0, 2, 0, 14, 30, 63, 127]
theorem spec_GrammarOk.tab12 : rtab .any (opsOf Try.f26 12) = spec_GrammarOk.T12 := by kernel_rfl
theorem spec_GrammarOk.bits12 : waitsOk spec_GrammarOk.T12.2 spec_GrammarOk.B12 = true := by kernel_rfl
set_option maxHeartbeats 8000000 in
set_option maxRecDepth 100000 in
theorem spec_GrammarOk.calls (k : Nat) (A0_0 : Option Addr) (c0_0 : Nat) (l0_0 : List (S108)) (r : Bool) (w : World) (hr0_0 : Kd.C k108 w A0_0 l0_0.length l0_0) (hc0_0 : l0_0.length ≤ c0_0) (h : spec_GrammarOk.f k l0_0 = some r) :
  Calls Try.prog 26 #[.agg #[.slice A0_0 l0_0.length c0_0]] w fun e w' => e = .returned (.bool r) ∧ Below w.heap.size w w' := by
 have hu46 := Try.underlying46
 have hu108 := Try.underlying108
 have hu113 := Try.underlying113
 have HR0_0 := Aside0.mk hr0_0
 have HC0_0 := Aside0.mk hc0_0
 clear hr0_0 hc0_0
 have HB := Aside0.mk (Below.refl w.heap.size w)
 have H : (if (l0_0.length : Int) < 1 then (spec_GrammarOk.j0 k true l0_0) else (spec_GrammarOk.j0 k (decide ((l0_0.length : Int) > 12)) l0_0)) = some r := h
 clear h
 have HC2 := Aside0.mk H
 clear H
 go_enter Try.func26, Try.ntmps26
 go_upto_region 1 with (first | ((with_reducible refine gate_dst (N := 1) rfl ?_); (try (refine gate_guard (by rfl) ?_; dsimp only)); refine bx_ 1 #[.slice A0_0 l0_0.length c0_0] 46 ?_; intro gb101 hg w3 hbox hb; have BK101 := Aside0.mk (hbox); have GW101 := ge_ hg HB; have GE101 := GW101; replace HB := sb_ HB hb; clear hb hbox hg))
 (try simp only [Act.put, List.setIfInBounds_toArray, List.set_cons_zero, List.set_cons_succ])
 go_cut [15] (fun v15 wc => ∃ (kq : Nat) (x15_1 : Bool), v15 = .bool x15_1 ∧ Aside0 (spec_GrammarOk.j0 kq x15_1 l0_0 = some r) ∧ Aside0 (kq ≤ k) ∧ Aside0 (wc.heap[gb101]? = some (.cells #[(.slice A0_0 l0_0.length c0_0)] 46 (0, 0))) ∧ Aside0 (Below w.heap.size w wc))
 case first =>
  have H := HC2.out
  clear HC2
  by_cases c4 : (l0_0.length : Int) < 1
  ·rw [if_pos c4] at H
   have c4b0 := decide_eq_true c4
   have c4b1 : decide (l0_0.length < 1) = true := decide_eq_true (by omega)
   clear c4
   (first | rw [c4b0] | (simp only [i64_w, i32_w]; rw [c4b0]) | skip)
   have H' := Aside0.mk H
   clear H
   obtain ⟨hcz5_0, hfz5_0⟩ := d1_ BK101
   go_wp2
   go_meet
   case rel => exact ⟨_, (true), rs_, H', ⟨by first | omega | exact Nat.le_refl _⟩, ⟨bk_ BK101.out⟩, ⟨be1_ HB.out GE101.out⟩⟩
  ·rw [if_neg c4] at H
   have c4b0 := decide_eq_false c4
   have c4b1 : decide (l0_0.length < 1) = false := decide_eq_false (by omega)
   clear c4
   (first | rw [c4b0] | (simp only [i64_w, i32_w]; rw [c4b0]) | skip)
   have H' := Aside0.mk H
   clear H
   obtain ⟨hcz6_0, hfz6_0⟩ := d1_ BK101
   go_wp2
   go_meet
   case rel => exact ⟨_, (decide ((l0_0.length : Int) > 12)), rs_, H', ⟨by first | omega | exact Nat.le_refl _⟩, ⟨bk_ BK101.out⟩, ⟨be1_ HB.out GE101.out⟩⟩
 case rest =>
  clear HC2
  try clear c4
  try clear c4b0
  try clear c4b1
  try clear hcz5_0
  try clear hcz6_0
  try clear hfz5_0
  try clear hfz6_0
  obtain ⟨kq, x15_1, rfl, HA, HJ1, BK101, HB⟩ := hcut
  cases kq with
  | zero => exact absurd HA.out (by simp [spec_GrammarOk.j0])
  | succ kj1 =>
   have H := HA.out
   clear HA
   simp only [spec_GrammarOk.j0] at H
   by_cases c7 : x15_1 = true
   ·subst c7
    rw [if_pos rfl] at H
    obtain rfl := Option.some.inj H
    go_wp2
    go_ret
    exact ⟨rt_, be1_ HB.out GE101.out⟩
   ·replace c7 := Bool.eq_false_iff.mpr c7
    subst c7
    rw [if_neg nft_] at H
    have H' := Aside0.mk H
    clear H
    go_wp2
    go_loopg [3] kj1 (fun kq v3 w' => ∃ (x3_2 : Int), v3 = .int .i64 x3_2 ∧ Aside0 (spec_GrammarOk.l0 kq x3_2 l0_0 = some r) ∧ Aside0 (kq ≤ kj1) ∧ Aside0 (w'.heap[gb101]? = some (.cells #[(.slice A0_0 l0_0.length c0_0)] 46 (0, 0))) ∧ Aside0 (Below w.heap.size w w'))
    case atStart => exact ⟨(0), rs_, H', ⟨Nat.le_refl _⟩, ⟨bk_ BK101.out⟩, ⟨be1_ HB.out GE101.out⟩⟩
    case round =>
     clear H'
     try clear c4
     try clear c4b0
     try clear c4b1
     try clear c7
     try clear hcz5_0
     try clear hcz6_0
     try clear hfz5_0
     try clear hfz6_0
     obtain ⟨x3_2, rfl, HA, HK2, BK101, HB⟩ := hrel
     cases gk with
     | zero => exact absurd HA.out (by simp [spec_GrammarOk.l0])
     | succ k2 =>
      have H := HA.out
      clear HA
      simp only [spec_GrammarOk.l0] at H
      by_cases c8 : x3_2 < (l0_0.length : Int)
      ·rw [if_pos c8] at H
       have c8b0 := decide_eq_true c8
       clear c8
       by_cases c9 : 0 ≤ x3_2
       ·rw [if_pos c9] at H
        have c9b0 := decide_eq_true c9
        clear c9
        have HC10 := Aside0.mk H
        clear H
        obtain ⟨hcz11_0, hfz11_0⟩ := d1_ BK101
        have p102 : 0 ≤ (x3_2 : Int) := of_decide_eq_true as_
        have q102 : x3_2 < (l0_0.length : Int) := of_decide_eq_true as_
        obtain ⟨ad102, A102_1, c102_1, e102, hx102_0, hx102_1, hl102_1, hi102_1⟩ := at_T108 HR0_0.out x3_2 p102 q102
        cases e102
        replace hx102_0 := mv_ HB.out hx102_0
        replace hx102_1 := mv_ HB.out hx102_1
        have HR102_1 := Aside0.mk hi102_1
        have HC102_1 := Aside0.mk hl102_1
        clear hi102_1 hl102_1
        replace p102 := eq_true p102
        replace q102 := eq_true q102
        go_upto_region 7 with (first | ((with_reducible refine gate_dst (N := 4) rfl ?_); (try (refine gate_guard (by rfl) ?_; dsimp only)); refine bx_ 4 #[.string (⟨#[]⟩ : ByteArray), .slice none 0 0] 108 ?_; intro gb103 hg w12 hbox hb; have BK103 := Aside0.mk (hbox); have GW103 := ge1_ hg HB GE101; have GE103 := GW103; have NB101_103 := nl_ hg BK101; have NB103_101 := ng_ hg BK101; replace BK101 := lb_ BK101 hb; replace HB := sb1_ HB GE101 hb; clear hb hbox hg; have hnb13 := NB103_101.out; have hnc13 := NB101_103.out; obtain ⟨hcz14_0, hcz14_1, hfz14_0, hfz14_1⟩ := d2_ BK103))
        (try simp only [Act.put, List.setIfInBounds_toArray, List.set_cons_zero, List.set_cons_succ])
        go_cut [51] (fun v51 wc => ∃ (kq : Nat) (x51_9 : Bool), v51 = .bool x51_9 ∧ Aside0 (spec_GrammarOk.j2 kq x3_2 x51_9 l0_0 ((rd_T108 l0_0 x3_2).f0) ((rd_T108 l0_0 x3_2).f1) = some r) ∧ Aside0 (kq ≤ k2) ∧ Aside0 (wc.heap[gb101]? = some (.cells #[(.slice (some ad102) l0_0.length c0_0)] 46 (0, 0))) ∧ Aside0 (wc.heap[gb103]? = some (.cells #[.string ((rd_T108 l0_0 x3_2).f0), (.slice A102_1 ((rd_T108 l0_0 x3_2).f1).length c102_1)] 108 (0, 0))) ∧ Aside0 (Below w.heap.size w wc))
        case first =>
         have H := HC10.out
         clear HC10
         obtain ⟨t104, A15, H⟩ := ob_ H
         by_cases c16 : t104 = true
         ·subst c16
          rw [if_pos rfl] at H
          obtain ⟨t105, A17, H⟩ := ob_ H
          by_cases c18 : t105 = x3_2
          ·rw [if_pos c18] at H
           have c18b0 : (t105 == x3_2) = true := beq_iff_eq.mpr c18
           have c18b1 : (t105 != x3_2) = false := bne_eq_false_iff_eq.mpr c18
           clear c18
           (first | rw [c18b0] | (simp only [i64_w, i32_w]; rw [c18b0]) | skip)
           by_cases c19 : (((rd_T108 l0_0 x3_2).f1).length : Int) < 1
           ·rw [if_pos c19] at H
            have c19b0 := decide_eq_true c19
            have c19b1 : decide (((rd_T108 l0_0 x3_2).f1).length < 1) = true := decide_eq_true (by omega)
            clear c19
            have H' := Aside0.mk H
            clear H
            have hnb20 := NB103_101.out
            have hnc20 := NB101_103.out
            obtain ⟨hcz21_0, hcz21_1, hfz21_0, hfz21_1⟩ := d2_ BK103
            go_wp2_with (first | ((with_reducible refine gate_callee (f := 75) rfl ?_); refine gl_ (some 30) rfl rfl Try.func75 #[.string ((rd_T108 l0_0 x3_2).f0)] ?_; (with_reducible refine (spec_l1Name.calls k2 ((rd_T108 l0_0 x3_2).f0) true _ A15.out).mono ?_); rintro e w' ⟨rfl, ⟨nd, rfl⟩⟩; refine ⟨_, rfl, ?_⟩; obtain ⟨hcz22_0, hfz22_0⟩ := d1_ BK101) | (go_at_call 76; (with_reducible refine (spec_ModeAt.calls k2 _ _ l0_0 ((rd_T108 l0_0 x3_2).f0) t105 _ ?side1 ?side2 A17.out).mono ?_); (case side1 => exact Kd.C_below HR0_0.out (be2_ HB.out GE101.out GE103.out)); (case side2 => exact HC0_0.out); rintro e w23 ⟨rfl, hb⟩; replace BK101 := Aside0.mk (blk_below (g := gb101) (o := .cells #[.slice (some ad102) l0_0.length c0_0] 46 (0, 0)) (by (with_reducible repeat (first | refine blk_drewN ?_ _ | refine blk_drew ?_ | refine blk_alloc ?_ _)); refine blk_far ?_ NB101_103.out _; (with_reducible repeat (first | refine blk_drewN ?_ _ | refine blk_drew ?_ | refine blk_alloc ?_ _)); refine blk_far ?_ NB101_103.out _; (with_reducible repeat (first | refine blk_drewN ?_ _ | refine blk_drew ?_ | refine blk_alloc ?_ _)); exact BK101.out) hb); replace BK103 := Aside0.mk (blk_below (g := gb103) (o := .cells #[.string ((rd_T108 l0_0 x3_2).f0), .slice A102_1 ((rd_T108 l0_0 x3_2).f1).length c102_1] 108 (0, 0)) (by (with_reducible repeat (first | refine blk_drewN ?_ _ | refine blk_drew ?_ | refine blk_alloc ?_ _)); refine blk_put (cs := #[.string ((rd_T108 l0_0 x3_2).f0), .slice none 0 0]) ?_ 1 _ rfl; (with_reducible repeat (first | refine blk_drewN ?_ _ | refine blk_drew ?_ | refine blk_alloc ?_ _)); refine blk_put (cs := #[.string (⟨#[]⟩ : ByteArray), .slice none 0 0]) ?_ 0 _ rfl; (with_reducible repeat (first | refine blk_drewN ?_ _ | refine blk_drew ?_ | refine blk_alloc ?_ _)); exact BK103.out) hb); replace HB := sb2_ HB GE101 GE103 hb; (try clear hb); obtain ⟨hcz24_0, hcz24_1, hfz24_0, hfz24_1⟩ := d2_ BK103))
            go_meet
            case rel => exact ⟨_, (true), rs_, H', ⟨by have := HJ1.out; have := HK2.out; first | omega | exact Nat.le_refl _⟩, ⟨bk_ BK101.out⟩, ⟨bk_ BK103.out⟩, ⟨be2_ HB.out GE101.out GE103.out⟩⟩
           ·rw [if_neg c19] at H
            have c19b0 := decide_eq_false c19
            have c19b1 : decide (((rd_T108 l0_0 x3_2).f1).length < 1) = false := decide_eq_false (by omega)
            clear c19
            have H' := Aside0.mk H
            clear H
            have hnb25 := NB103_101.out
            have hnc25 := NB101_103.out
            obtain ⟨hcz26_0, hcz26_1, hfz26_0, hfz26_1⟩ := d2_ BK103
            go_wp2_with (first | ((with_reducible refine gate_callee (f := 75) rfl ?_); refine gl_ (some 30) rfl rfl Try.func75 #[.string ((rd_T108 l0_0 x3_2).f0)] ?_; (with_reducible refine (spec_l1Name.calls k2 ((rd_T108 l0_0 x3_2).f0) true _ A15.out).mono ?_); rintro e w' ⟨rfl, ⟨nd, rfl⟩⟩; refine ⟨_, rfl, ?_⟩; obtain ⟨hcz27_0, hfz27_0⟩ := d1_ BK101) | (go_at_call 76; (with_reducible refine (spec_ModeAt.calls k2 _ _ l0_0 ((rd_T108 l0_0 x3_2).f0) t105 _ ?side1 ?side2 A17.out).mono ?_); (case side1 => exact Kd.C_below HR0_0.out (be2_ HB.out GE101.out GE103.out)); (case side2 => exact HC0_0.out); rintro e w28 ⟨rfl, hb⟩; replace BK101 := Aside0.mk (blk_below (g := gb101) (o := .cells #[.slice (some ad102) l0_0.length c0_0] 46 (0, 0)) (by (with_reducible repeat (first | refine blk_drewN ?_ _ | refine blk_drew ?_ | refine blk_alloc ?_ _)); refine blk_far ?_ NB101_103.out _; (with_reducible repeat (first | refine blk_drewN ?_ _ | refine blk_drew ?_ | refine blk_alloc ?_ _)); refine blk_far ?_ NB101_103.out _; (with_reducible repeat (first | refine blk_drewN ?_ _ | refine blk_drew ?_ | refine blk_alloc ?_ _)); exact BK101.out) hb); replace BK103 := Aside0.mk (blk_below (g := gb103) (o := .cells #[.string ((rd_T108 l0_0 x3_2).f0), .slice A102_1 ((rd_T108 l0_0 x3_2).f1).length c102_1] 108 (0, 0)) (by (with_reducible repeat (first | refine blk_drewN ?_ _ | refine blk_drew ?_ | refine blk_alloc ?_ _)); refine blk_put (cs := #[.string ((rd_T108 l0_0 x3_2).f0), .slice none 0 0]) ?_ 1 _ rfl; (with_reducible repeat (first | refine blk_drewN ?_ _ | refine blk_drew ?_ | refine blk_alloc ?_ _)); refine blk_put (cs := #[.string (⟨#[]⟩ : ByteArray), .slice none 0 0]) ?_ 0 _ rfl; (with_reducible repeat (first | refine blk_drewN ?_ _ | refine blk_drew ?_ | refine blk_alloc ?_ _)); exact BK103.out) hb); replace HB := sb2_ HB GE101 GE103 hb; (try clear hb); obtain ⟨hcz29_0, hcz29_1, hfz29_0, hfz29_1⟩ := d2_ BK103))
            go_meet
            case rel => exact ⟨_, (decide ((((rd_T108 l0_0 x3_2).f1).length : Int) > 40)), rs_, H', ⟨by have := HJ1.out; have := HK2.out; first | omega | exact Nat.le_refl _⟩, ⟨bk_ BK101.out⟩, ⟨bk_ BK103.out⟩, ⟨be2_ HB.out GE101.out GE103.out⟩⟩
          ·rw [if_neg c18] at H
           have c18b0 : (t105 == x3_2) = false := beq_eq_false_iff_ne.mpr c18
           have c18b1 : (t105 != x3_2) = true := bne_iff_ne.mpr c18
           (first | rw [c18b0] | (simp only [i64_w, i32_w]; rw [c18b0]) | skip)
           have H' := Aside0.mk H
           clear H
           have hnb30 := NB103_101.out
           have hnc30 := NB101_103.out
           obtain ⟨hcz31_0, hcz31_1, hfz31_0, hfz31_1⟩ := d2_ BK103
           go_wp2_with (first | ((with_reducible refine gate_callee (f := 75) rfl ?_); refine gl_ (some 30) rfl rfl Try.func75 #[.string ((rd_T108 l0_0 x3_2).f0)] ?_; (with_reducible refine (spec_l1Name.calls k2 ((rd_T108 l0_0 x3_2).f0) true _ A15.out).mono ?_); rintro e w' ⟨rfl, ⟨nd, rfl⟩⟩; refine ⟨_, rfl, ?_⟩; obtain ⟨hcz32_0, hfz32_0⟩ := d1_ BK101) | (go_at_call 76; (with_reducible refine (spec_ModeAt.calls k2 _ _ l0_0 ((rd_T108 l0_0 x3_2).f0) t105 _ ?side1 ?side2 A17.out).mono ?_); (case side1 => exact Kd.C_below HR0_0.out (be2_ HB.out GE101.out GE103.out)); (case side2 => exact HC0_0.out); rintro e w33 ⟨rfl, hb⟩; replace BK101 := Aside0.mk (blk_below (g := gb101) (o := .cells #[.slice (some ad102) l0_0.length c0_0] 46 (0, 0)) (by (with_reducible repeat (first | refine blk_drewN ?_ _ | refine blk_drew ?_ | refine blk_alloc ?_ _)); refine blk_far ?_ NB101_103.out _; (with_reducible repeat (first | refine blk_drewN ?_ _ | refine blk_drew ?_ | refine blk_alloc ?_ _)); refine blk_far ?_ NB101_103.out _; (with_reducible repeat (first | refine blk_drewN ?_ _ | refine blk_drew ?_ | refine blk_alloc ?_ _)); exact BK101.out) hb); replace BK103 := Aside0.mk (blk_below (g := gb103) (o := .cells #[.string ((rd_T108 l0_0 x3_2).f0), .slice A102_1 ((rd_T108 l0_0 x3_2).f1).length c102_1] 108 (0, 0)) (by (with_reducible repeat (first | refine blk_drewN ?_ _ | refine blk_drew ?_ | refine blk_alloc ?_ _)); refine blk_put (cs := #[.string ((rd_T108 l0_0 x3_2).f0), .slice none 0 0]) ?_ 1 _ rfl; (with_reducible repeat (first | refine blk_drewN ?_ _ | refine blk_drew ?_ | refine blk_alloc ?_ _)); refine blk_put (cs := #[.string (⟨#[]⟩ : ByteArray), .slice none 0 0]) ?_ 0 _ rfl; (with_reducible repeat (first | refine blk_drewN ?_ _ | refine blk_drew ?_ | refine blk_alloc ?_ _)); exact BK103.out) hb); replace HB := sb2_ HB GE101 GE103 hb; (try clear hb)))
           go_meet
           case rel => exact ⟨_, (true), rs_, H', ⟨by have := HJ1.out; have := HK2.out; first | omega | exact Nat.le_refl _⟩, ⟨bk_ BK101.out⟩, ⟨bk_ BK103.out⟩, ⟨be2_ HB.out GE101.out GE103.out⟩⟩
         ·replace c16 := Bool.eq_false_iff.mpr c16
          subst c16
          rw [if_neg nft_] at H
          have H' := Aside0.mk H
          clear H
          have hnb34 := NB103_101.out
          have hnc34 := NB101_103.out
          obtain ⟨hcz35_0, hcz35_1, hfz35_0, hfz35_1⟩ := d2_ BK103
          go_wp2_with (first | ((with_reducible refine gate_callee (f := 75) rfl ?_); refine gl_ (some 30) rfl rfl Try.func75 #[.string ((rd_T108 l0_0 x3_2).f0)] ?_; (with_reducible refine (spec_l1Name.calls k2 ((rd_T108 l0_0 x3_2).f0) false _ A15.out).mono ?_); rintro e w' ⟨rfl, ⟨nd, rfl⟩⟩; refine ⟨_, rfl, ?_⟩))
          go_meet
          case rel => exact ⟨_, (true), rs_, H', ⟨by have := HJ1.out; have := HK2.out; first | omega | exact Nat.le_refl _⟩, ⟨by (with_reducible repeat (first | refine blk_drewN ?_ _ | refine blk_drew ?_ | refine blk_alloc ?_ _)); refine blk_far ?_ NB101_103.out _; (with_reducible repeat (first | refine blk_drewN ?_ _ | refine blk_drew ?_ | refine blk_alloc ?_ _)); refine blk_far ?_ NB101_103.out _; (with_reducible repeat (first | refine blk_drewN ?_ _ | refine blk_drew ?_ | refine blk_alloc ?_ _)); exact BK101.out⟩, ⟨by (with_reducible repeat (first | refine blk_drewN ?_ _ | refine blk_drew ?_ | refine blk_alloc ?_ _)); refine blk_put (cs := #[.string ((rd_T108 l0_0 x3_2).f0), .slice none 0 0]) ?_ 1 _ rfl; (with_reducible repeat (first | refine blk_drewN ?_ _ | refine blk_drew ?_ | refine blk_alloc ?_ _)); refine blk_put (cs := #[.string (⟨#[]⟩ : ByteArray), .slice none 0 0]) ?_ 0 _ rfl; (with_reducible repeat (first | refine blk_drewN ?_ _ | refine blk_drew ?_ | refine blk_alloc ?_ _)); exact BK103.out⟩, ⟨be2_ HB.out GE101.out GE103.out⟩⟩
        case rest =>
         clear HC10
         try clear c4
         try clear c4b0
         try clear c4b1
         try clear c7
         try clear c8
         try clear c8b0
         try clear c9
         try clear c9b0
         try clear c16
         try clear c18
         try clear c18b0
         try clear c18b1
         try clear c19
         try clear c19b0
         try clear c19b1
         try clear hcz11_0
         try clear hcz14_0
         try clear hcz14_1
         try clear hcz21_0
         try clear hcz21_1
         try clear hcz22_0
         try clear hcz24_0
         try clear hcz24_1
         try clear hcz26_0
         try clear hcz26_1
         try clear hcz27_0
         try clear hcz29_0
         try clear hcz29_1
         try clear hcz31_0
         try clear hcz31_1
         try clear hcz32_0
         try clear hcz35_0
         try clear hcz35_1
         try clear hcz5_0
         try clear hcz6_0
         try clear hfz11_0
         try clear hfz14_0
         try clear hfz14_1
         try clear hfz21_0
         try clear hfz21_1
         try clear hfz22_0
         try clear hfz24_0
         try clear hfz24_1
         try clear hfz26_0
         try clear hfz26_1
         try clear hfz27_0
         try clear hfz29_0
         try clear hfz29_1
         try clear hfz31_0
         try clear hfz31_1
         try clear hfz32_0
         try clear hfz35_0
         try clear hfz35_1
         try clear hfz5_0
         try clear hfz6_0
         try clear hx102_0
         try clear hx102_1
         try clear p102
         try clear q102
         obtain ⟨kq, x51_9, rfl, HA, HJ9, BK101, BK103, HB⟩ := hcut
         cases kq with
         | zero => exact absurd HA.out (by simp [spec_GrammarOk.j2])
         | succ kj9 =>
          have H := HA.out
          clear HA
          simp only [spec_GrammarOk.j2] at H
          by_cases c36 : x51_9 = true
          ·subst c36
           rw [if_pos rfl] at H
           obtain rfl := Option.some.inj H
           go_wp2
           go_ret
           exact ⟨rt_, be2_ HB.out GE101.out GE103.out⟩
          ·replace c36 := Bool.eq_false_iff.mpr c36
           subst c36
           rw [if_neg nft_] at H
           have H' := Aside0.mk H
           clear H
           go_wp2
           go_loopg [5] kj9 (fun kq v5 w' => ∃ (x5_4 : Int), v5 = .int .i64 x5_4 ∧ Aside0 (spec_GrammarOk.l1 kq x3_2 x5_4 l0_0 ((rd_T108 l0_0 x3_2).f0) ((rd_T108 l0_0 x3_2).f1) = some r) ∧ Aside0 (kq ≤ kj9) ∧ Aside0 (w'.heap[gb101]? = some (.cells #[(.slice (some ad102) l0_0.length c0_0)] 46 (0, 0))) ∧ Aside0 (w'.heap[gb103]? = some (.cells #[.string ((rd_T108 l0_0 x3_2).f0), (.slice A102_1 ((rd_T108 l0_0 x3_2).f1).length c102_1)] 108 (0, 0))) ∧ Aside0 (Below w.heap.size w w'))
           case atStart => exact ⟨(0), rs_, H', ⟨Nat.le_refl _⟩, ⟨bk_ BK101.out⟩, ⟨bk_ BK103.out⟩, ⟨be2_ HB.out GE101.out GE103.out⟩⟩
           case round =>
            clear H'
            try clear c4
            try clear c4b0
            try clear c4b1
            try clear c7
            try clear c8
            try clear c8b0
            try clear c9
            try clear c9b0
            try clear c16
            try clear c18
            try clear c18b0
            try clear c18b1
            try clear c19
            try clear c19b0
            try clear c19b1
            try clear c36
            try clear hcz11_0
            try clear hcz14_0
            try clear hcz14_1
            try clear hcz21_0
            try clear hcz21_1
            try clear hcz22_0
            try clear hcz24_0
            try clear hcz24_1
            try clear hcz26_0
            try clear hcz26_1
            try clear hcz27_0
            try clear hcz29_0
            try clear hcz29_1
            try clear hcz31_0
            try clear hcz31_1
            try clear hcz32_0
            try clear hcz35_0
            try clear hcz35_1
            try clear hcz5_0
            try clear hcz6_0
            try clear hfz11_0
            try clear hfz14_0
            try clear hfz14_1
            try clear hfz21_0
            try clear hfz21_1
            try clear hfz22_0
            try clear hfz24_0
            try clear hfz24_1
            try clear hfz26_0
            try clear hfz26_1
            try clear hfz27_0
            try clear hfz29_0
            try clear hfz29_1
            try clear hfz31_0
            try clear hfz31_1
            try clear hfz32_0
            try clear hfz35_0
            try clear hfz35_1
            try clear hfz5_0
            try clear hfz6_0
            try clear hx102_0
            try clear hx102_1
            try clear p102
            try clear q102
            obtain ⟨x5_4, rfl, HA, HK4, BK101, BK103, HB⟩ := hrel
            cases gk with
            | zero => exact absurd HA.out (by simp [spec_GrammarOk.l1])
            | succ k4 =>
             have H := HA.out
             clear HA
             simp only [spec_GrammarOk.l1] at H
             by_cases c37 : x5_4 < (((rd_T108 l0_0 x3_2).f1).length : Int)
             ·rw [if_pos c37] at H
              have c37b0 := decide_eq_true c37
              clear c37
              by_cases c38 : 0 ≤ x5_4
              ·rw [if_pos c38] at H
               have c38b0 := decide_eq_true c38
               clear c38
               obtain ⟨t107, A39, H⟩ := ob_ H
               by_cases c40 : t107 = true
               ·subst c40
                rw [if_pos rfl] at H
                have H' := Aside0.mk H
                clear H
                have hnb41 := NB103_101.out
                have hnc41 := NB101_103.out
                obtain ⟨hcz42_0, hcz42_1, hfz42_0, hfz42_1⟩ := d2_ BK103
                try go_wp2
                replace BK101 := Aside0.mk (blk_drew BK101.out)
                replace BK103 := Aside0.mk (blk_drew BK103.out)
                replace HB := Aside0.mk (below_drew1 HB.out)
                have p106 : 0 ≤ (x5_4 : Int) := of_decide_eq_true as_
                have q106 : x5_4 < (((rd_T108 l0_0 x3_2).f1).length : Int) := of_decide_eq_true as_
                obtain ⟨ad106, A106_1, c106_1, e106, hx106_0, hx106_1, hx106_2, hx106_3, hx106_4, hl106_1, hi106_1⟩ := at_T113 HR102_1.out x5_4 p106 q106
                have hw106_4 := hx106_4
                have hw106_3 := hx106_3
                have hw106_2 := hx106_2
                have hw106_1 := hx106_1
                have hw106_0 := hx106_0
                cases e106
                replace hx106_0 := mv_ HB.out hx106_0
                replace hx106_1 := mv_ HB.out hx106_1
                replace hx106_2 := mv_ HB.out hx106_2
                replace hx106_3 := mv_ HB.out hx106_3
                replace hx106_4 := mv_ HB.out hx106_4
                have HR106_1 := Aside0.mk hi106_1
                have HC106_1 := Aside0.mk hl106_1
                clear hi106_1 hl106_1
                replace p106 := eq_true p106
                replace q106 := eq_true q106
                refine start_ (n := 8) (S := fun w' => w'.cell? ⟨gb101, 0, none⟩ = some (.slice (some ad102) l0_0.length c0_0) ∧ w'.cell? ⟨gb103, 0, none⟩ = some (.string ((rd_T108 l0_0 x3_2).f0)) ∧ w'.cell? ⟨gb103, 1, none⟩ = some (.slice (some ad106) ((rd_T108 l0_0 x3_2).f1).length c102_1) ∧ w'.cell? (ad106.add ((x5_4).toNat * 5)) = some (.string ((rd_T113 ((rd_T108 l0_0 x3_2).f1) x5_4).f0)) ∧ w'.cell? ⟨(ad106.add ((x5_4).toNat * 5)).block, (ad106.add ((x5_4).toNat * 5)).off + 1, none⟩ = some (.slice A106_1 ((rd_T113 ((rd_T108 l0_0 x3_2).f1) x5_4).f1.f0).length c106_1) ∧ w'.cell? ⟨(ad106.add ((x5_4).toNat * 5)).block, (ad106.add ((x5_4).toNat * 5)).off + 2, none⟩ = some (.bool ((rd_T113 ((rd_T108 l0_0 x3_2).f1) x5_4).f2)) ∧ w'.cell? ⟨(ad106.add ((x5_4).toNat * 5)).block, (ad106.add ((x5_4).toNat * 5)).off + 3, none⟩ = some (.int .i64 ((rd_T113 ((rd_T108 l0_0 x3_2).f1) x5_4).f3)) ∧ w'.cell? ⟨(ad106.add ((x5_4).toNat * 5)).block, (ad106.add ((x5_4).toNat * 5)).off + 4, none⟩ = some (.string ((rd_T113 ((rd_T108 l0_0 x3_2).f1) x5_4).f4))) (ds := []) #[false, false, false, false, false, false, false, false] (by kernel_rfl) rfl rfl ⟨(blk_cell BK101.out 0).trans rfl, (blk_cell BK103.out 0).trans rfl, (blk_cell BK103.out 1).trans rfl, (mv_ HB.out hw106_0), (mv_ HB.out hw106_1), (mv_ HB.out hw106_2), (mv_ HB.out hw106_3), (mv_ HB.out hw106_4)⟩ (fun hHeld => ?_); refine with_tabW spec_GrammarOk.tab12 spec_GrammarOk.bits12 (fun HT_ HW_ => ?_)
                generalize wr.drew = w43 at BK101 BK103 HB HR106_1 hx106_0 hx106_1 hx106_2 hx106_3 hx106_4 hHeld ⊢
                refine pu_ 1 (some 60) (bb 8 2) HT_.out ?_
                refine pu_ 3 (some 62) (bb 8 10) HT_.out ?_
                refine ta_ 0 (some 59) (bb 8 11) HT_.out HW_.out hHeld ?_
                refine ta_ 2 (some 61) (bb 8 15) HT_.out HW_.out hHeld ?_
                refine pu_ 4 (some 63) (bb 8 31) HT_.out ?_
                refine ta_ 5 (some 64) (bb 8 63) HT_.out HW_.out hHeld ?_
                refine one_ (i := 6) (N := some 65) (bb 8 127) rfl rfl (one_of HT_.out (by kernel_rfl)) (by decide) (fun K hK => ?_)
                refine gs_ Try.func77 #[.agg #[.slice (some ad102) l0_0.length c0_0], .agg #[.string ((rd_T113 ((rd_T108 l0_0 x3_2).f1) x5_4).f0), .slice A106_1 ((rd_T113 ((rd_T108 l0_0 x3_2).f1) x5_4).f1.f0).length c106_1, .bool ((rd_T113 ((rd_T108 l0_0 x3_2).f1) x5_4).f2), .int .i64 ((rd_T113 ((rd_T108 l0_0 x3_2).f1) x5_4).f3), .string ((rd_T113 ((rd_T108 l0_0 x3_2).f1) x5_4).f4)]] ?_
                with_reducible refine (spec_l5Rule.calls k4 _ _ l0_0 ((rd_T113 ((rd_T108 l0_0 x3_2).f1) x5_4).f0) _ _ ((rd_T113 ((rd_T108 l0_0 x3_2).f1) x5_4).f1.f0) ((rd_T113 ((rd_T108 l0_0 x3_2).f1) x5_4).f2) ((rd_T113 ((rd_T108 l0_0 x3_2).f1) x5_4).f3) ((rd_T113 ((rd_T108 l0_0 x3_2).f1) x5_4).f4) true _ ?side1 ?side2 ?side3 ?side4 A39.out).mono ?_
                (case side1 => exact Kd.C_below HR0_0.out (be_ HB.out))
                (case side2 => exact HC0_0.out)
                (case side3 => exact Kd.C_below HR106_1.out (be_ HB.out))
                (case side4 => exact HC106_1.out)
                rintro e w44 ⟨rfl, hb⟩
                refine ⟨_, rfl, ?_⟩
                replace BK101 := lb_ BK101 hb
                replace BK103 := lb_ BK103 hb
                replace HB := sb2_ HB GE101 GE103 hb
                (try clear hb)
                (try clear hb2)
                (try clear hk)
                (try clear hi)
                refine hK.out _ _ ⟨(blk_cell BK101.out 0).trans rfl, (blk_cell BK103.out 0).trans rfl, (blk_cell BK103.out 1).trans rfl, (mv_ HB.out hw106_0), (mv_ HB.out hw106_1), (mv_ HB.out hw106_2), (mv_ HB.out hw106_3), (mv_ HB.out hw106_4)⟩ (fun hHeld => ?_)
                clear hK K
                refine no_ (some 65) ?_
                refine pu_ 7 (some 66) (bb 8 255) HT_.out ?_
                refine done_ (done_of HT_.out (by kernel_rfl)) ?_
                try go_wp2
                go_roundg k4
                case measure => have := HJ1.out; have := HK2.out; have := HJ9.out; have := HK4.out; omega
                case rel => exact ⟨(wrap64 (x5_4 + 1)), rs_, H', ⟨by have := HJ1.out; have := HK2.out; have := HJ9.out; have := HK4.out; omega⟩, ⟨bk_ BK101.out⟩, ⟨bk_ BK103.out⟩, ⟨be2_ HB.out GE101.out GE103.out⟩⟩
               ·replace c40 := Bool.eq_false_iff.mpr c40
                subst c40
                rw [if_neg nft_] at H
                obtain rfl := Option.some.inj H
                have hnb45 := NB103_101.out
                have hnc45 := NB101_103.out
                obtain ⟨hcz46_0, hcz46_1, hfz46_0, hfz46_1⟩ := d2_ BK103
                try go_wp2
                replace BK101 := Aside0.mk (blk_drew BK101.out)
                replace BK103 := Aside0.mk (blk_drew BK103.out)
                replace HB := Aside0.mk (below_drew1 HB.out)
                have p106 : 0 ≤ (x5_4 : Int) := of_decide_eq_true as_
                have q106 : x5_4 < (((rd_T108 l0_0 x3_2).f1).length : Int) := of_decide_eq_true as_
                obtain ⟨ad106, A106_1, c106_1, e106, hx106_0, hx106_1, hx106_2, hx106_3, hx106_4, hl106_1, hi106_1⟩ := at_T113 HR102_1.out x5_4 p106 q106
                have hw106_4 := hx106_4
                have hw106_3 := hx106_3
                have hw106_2 := hx106_2
                have hw106_1 := hx106_1
                have hw106_0 := hx106_0
                cases e106
                replace hx106_0 := mv_ HB.out hx106_0
                replace hx106_1 := mv_ HB.out hx106_1
                replace hx106_2 := mv_ HB.out hx106_2
                replace hx106_3 := mv_ HB.out hx106_3
                replace hx106_4 := mv_ HB.out hx106_4
                have HR106_1 := Aside0.mk hi106_1
                have HC106_1 := Aside0.mk hl106_1
                clear hi106_1 hl106_1
                replace p106 := eq_true p106
                replace q106 := eq_true q106
                refine start_ (n := 8) (S := fun w' => w'.cell? ⟨gb101, 0, none⟩ = some (.slice (some ad102) l0_0.length c0_0) ∧ w'.cell? ⟨gb103, 0, none⟩ = some (.string ((rd_T108 l0_0 x3_2).f0)) ∧ w'.cell? ⟨gb103, 1, none⟩ = some (.slice (some ad106) ((rd_T108 l0_0 x3_2).f1).length c102_1) ∧ w'.cell? (ad106.add ((x5_4).toNat * 5)) = some (.string ((rd_T113 ((rd_T108 l0_0 x3_2).f1) x5_4).f0)) ∧ w'.cell? ⟨(ad106.add ((x5_4).toNat * 5)).block, (ad106.add ((x5_4).toNat * 5)).off + 1, none⟩ = some (.slice A106_1 ((rd_T113 ((rd_T108 l0_0 x3_2).f1) x5_4).f1.f0).length c106_1) ∧ w'.cell? ⟨(ad106.add ((x5_4).toNat * 5)).block, (ad106.add ((x5_4).toNat * 5)).off + 2, none⟩ = some (.bool ((rd_T113 ((rd_T108 l0_0 x3_2).f1) x5_4).f2)) ∧ w'.cell? ⟨(ad106.add ((x5_4).toNat * 5)).block, (ad106.add ((x5_4).toNat * 5)).off + 3, none⟩ = some (.int .i64 ((rd_T113 ((rd_T108 l0_0 x3_2).f1) x5_4).f3)) ∧ w'.cell? ⟨(ad106.add ((x5_4).toNat * 5)).block, (ad106.add ((x5_4).toNat * 5)).off + 4, none⟩ = some (.string ((rd_T113 ((rd_T108 l0_0 x3_2).f1) x5_4).f4))) (ds := []) #[false, false, false, false, false, false, false, false] (by kernel_rfl) rfl rfl ⟨(blk_cell BK101.out 0).trans rfl, (blk_cell BK103.out 0).trans rfl, (blk_cell BK103.out 1).trans rfl, (mv_ HB.out hw106_0), (mv_ HB.out hw106_1), (mv_ HB.out hw106_2), (mv_ HB.out hw106_3), (mv_ HB.out hw106_4)⟩ (fun hHeld => ?_); refine with_tabW spec_GrammarOk.tab12 spec_GrammarOk.bits12 (fun HT_ HW_ => ?_)
                generalize wr.drew = w47 at BK101 BK103 HB HR106_1 hx106_0 hx106_1 hx106_2 hx106_3 hx106_4 hHeld ⊢
                refine pu_ 1 (some 60) (bb 8 2) HT_.out ?_
                refine pu_ 3 (some 62) (bb 8 10) HT_.out ?_
                refine ta_ 0 (some 59) (bb 8 11) HT_.out HW_.out hHeld ?_
                refine ta_ 2 (some 61) (bb 8 15) HT_.out HW_.out hHeld ?_
                refine pu_ 4 (some 63) (bb 8 31) HT_.out ?_
                refine ta_ 5 (some 64) (bb 8 63) HT_.out HW_.out hHeld ?_
                refine one_ (i := 6) (N := some 65) (bb 8 127) rfl rfl (one_of HT_.out (by kernel_rfl)) (by decide) (fun K hK => ?_)
                refine gs_ Try.func77 #[.agg #[.slice (some ad102) l0_0.length c0_0], .agg #[.string ((rd_T113 ((rd_T108 l0_0 x3_2).f1) x5_4).f0), .slice A106_1 ((rd_T113 ((rd_T108 l0_0 x3_2).f1) x5_4).f1.f0).length c106_1, .bool ((rd_T113 ((rd_T108 l0_0 x3_2).f1) x5_4).f2), .int .i64 ((rd_T113 ((rd_T108 l0_0 x3_2).f1) x5_4).f3), .string ((rd_T113 ((rd_T108 l0_0 x3_2).f1) x5_4).f4)]] ?_
                with_reducible refine (spec_l5Rule.calls k4 _ _ l0_0 ((rd_T113 ((rd_T108 l0_0 x3_2).f1) x5_4).f0) _ _ ((rd_T113 ((rd_T108 l0_0 x3_2).f1) x5_4).f1.f0) ((rd_T113 ((rd_T108 l0_0 x3_2).f1) x5_4).f2) ((rd_T113 ((rd_T108 l0_0 x3_2).f1) x5_4).f3) ((rd_T113 ((rd_T108 l0_0 x3_2).f1) x5_4).f4) false _ ?side1 ?side2 ?side3 ?side4 A39.out).mono ?_
                (case side1 => exact Kd.C_below HR0_0.out (be_ HB.out))
                (case side2 => exact HC0_0.out)
                (case side3 => exact Kd.C_below HR106_1.out (be_ HB.out))
                (case side4 => exact HC106_1.out)
                rintro e w48 ⟨rfl, hb⟩
                refine ⟨_, rfl, ?_⟩
                replace BK101 := lb_ BK101 hb
                replace BK103 := lb_ BK103 hb
                replace HB := sb2_ HB GE101 GE103 hb
                (try clear hb)
                (try clear hb2)
                (try clear hk)
                (try clear hi)
                refine hK.out _ _ ⟨(blk_cell BK101.out 0).trans rfl, (blk_cell BK103.out 0).trans rfl, (blk_cell BK103.out 1).trans rfl, (mv_ HB.out hw106_0), (mv_ HB.out hw106_1), (mv_ HB.out hw106_2), (mv_ HB.out hw106_3), (mv_ HB.out hw106_4)⟩ (fun hHeld => ?_)
                clear hK K
                refine no_ (some 65) ?_
                refine pu_ 7 (some 66) (bb 8 255) HT_.out ?_
                refine done_ (done_of HT_.out (by kernel_rfl)) ?_
                try go_wp2
                go_ret
                exact ⟨rt_, be2_ HB.out GE101.out GE103.out⟩
              ·rw [if_neg c38] at H
               exact absurd H (by simp)
             ·rw [if_neg c37] at H
              have c37b0 := decide_eq_false c37
              clear c37
              have H' := Aside0.mk H
              clear H
              have hnb49 := NB103_101.out
              have hnc49 := NB101_103.out
              obtain ⟨hcz50_0, hcz50_1, hfz50_0, hfz50_1⟩ := d2_ BK103
              go_wp2
              go_roundg k4
              case measure => have := HJ1.out; have := HK2.out; have := HJ9.out; have := HK4.out; omega
              case rel => exact ⟨(wrap64 (x3_2 + 1)), rs_, H', ⟨by have := HJ1.out; have := HK2.out; have := HJ9.out; have := HK4.out; omega⟩, ⟨bk_ BK101.out⟩, ⟨be2_ HB.out GE101.out GE103.out⟩⟩
       ·rw [if_neg c9] at H
        exact absurd H (by simp)
      ·rw [if_neg c8] at H
       have c8b0 := decide_eq_false c8
       clear c8
       obtain rfl := Option.some.inj H
       obtain ⟨hcz51_0, hfz51_0⟩ := d1_ BK101
       go_wp2
       go_ret
       exact ⟨rt_, be1_ HB.out GE101.out⟩
/-! ### spec_StreamOk: function 34 -/
mutual
def spec_StreamOk.j0 : Nat → Bool → List (S108) → List Int → ByteArray → Int → Int → Int → Int → Option (Bool)
 | 0, _, _, _, _, _, _, _, _ => none
 | k + 1, x26, x102000, x103000, x103001, x103002, x103003, x103004, x103005 => if x26 = true then (some false) else (spec_StreamOk.l0 k 0 x102000 x103000 x103001 x103002 x103003 x103004 x103005)
def spec_StreamOk.l0 : Nat → Int → List (S108) → List Int → ByteArray → Int → Int → Int → Int → Option (Bool)
 | 0, _, _, _, _, _, _, _, _ => none
 | k + 1, x5, x102000, x103000, x103001, x103002, x103003, x103004, x103005 => if x5 < (x103000.length : Int) then (if 0 ≤ x5 then ((spec_l1In.f (rd x103000 x5) 0 (wrap64 ((x102000.length : Int) - 1))).bind fun t105 => (if t105 = true then (spec_StreamOk.l0 k (wrap64 (x5 + 1)) x102000 x103000 x103001 x103002 x103003 x103004 x103005) else (some false))) else (none)) else ((spec_l1In.f x103002 0 1000000000000).bind fun t106 => (if t106 = true then ((spec_l1In.f x103003 1 1000000000000).bind fun t107 => (if t107 = true then ((spec_l1In.f x103004 1 1000000000000).bind fun t108 => (if t108 = true then (if x103005 = 0 then (some true) else ((spec_l1In.f x103005 2 4).bind fun t109 => (some t109))) else (some false))) else (some false))) else (some false)))
end
def spec_StreamOk.f (k : Nat) (l0_0 : List (S108)) (l1_0 : List Int) (a1_1 : ByteArray) (a1_2 : Int) (a1_3 : Int) (a1_4 : Int) (a1_5 : Int) : Option (Bool) := (spec_GrammarOk.f k l0_0).bind fun t103 => (if t103 = true then (if (l1_0.length : Int) < 1 then (spec_StreamOk.j0 k true l0_0 l1_0 a1_1 a1_2 a1_3 a1_4 a1_5) else (if (l1_0.length : Int) > 20 then (spec_StreamOk.j0 k true l0_0 l1_0 a1_1 a1_2 a1_3 a1_4 a1_5) else (spec_StreamOk.j0 k (decide ((a1_1.size : Int) > 20000)) l0_0 l1_0 a1_1 a1_2 a1_3 a1_4 a1_5))) else (spec_StreamOk.j0 k true l0_0 l1_0 a1_1 a1_2 a1_3 a1_4 a1_5))
set_option maxHeartbeats 8000000 in
set_option maxRecDepth 100000 in
theorem spec_StreamOk.calls (k : Nat) (A0_0 : Option Addr) (c0_0 : Nat) (l0_0 : List (S108)) (A1_0 : Option Addr) (c1_0 : Nat) (l1_0 : List Int) (a1_1 : ByteArray) (a1_2 : Int) (a1_3 : Int) (a1_4 : Int) (a1_5 : Int) (r : Bool) (w : World) (hr0_0 : Kd.C k108 w A0_0 l0_0.length l0_0) (hc0_0 : l0_0.length ≤ c0_0) (hr1_0 : Kd.C (Kd.int .i64) w A1_0 l1_0.length l1_0) (hc1_0 : l1_0.length ≤ c1_0) (h : spec_StreamOk.f k l0_0 l1_0 a1_1 a1_2 a1_3 a1_4 a1_5 = some r) :
  Calls Try.prog 34 #[.agg #[.slice A0_0 l0_0.length c0_0], .agg #[.slice A1_0 l1_0.length c1_0, .string a1_1, .int .i64 a1_2, .int .i64 a1_3, .int .i64 a1_4, .int .i64 a1_5]] w fun e w' => e = .returned (.bool r) ∧ Below w.heap.size w w' := by
 have hu46 := Try.underlying46
 have hu61 := Try.underlying61
 have HR0_0 := Aside0.mk hr0_0
 have HC0_0 := Aside0.mk hc0_0
 clear hr0_0 hc0_0
 have HR1_0 := Aside0.mk hr1_0
 have HC1_0 := Aside0.mk hc1_0
 clear hr1_0 hc1_0
 have HB := Aside0.mk (Below.refl w.heap.size w)
 have H : ((spec_GrammarOk.f k l0_0).bind fun t103 => (if t103 = true then (if (l1_0.length : Int) < 1 then (spec_StreamOk.j0 k true l0_0 l1_0 a1_1 a1_2 a1_3 a1_4 a1_5) else (if (l1_0.length : Int) > 20 then (spec_StreamOk.j0 k true l0_0 l1_0 a1_1 a1_2 a1_3 a1_4 a1_5) else (spec_StreamOk.j0 k (decide ((a1_1.size : Int) > 20000)) l0_0 l1_0 a1_1 a1_2 a1_3 a1_4 a1_5))) else (spec_StreamOk.j0 k true l0_0 l1_0 a1_1 a1_2 a1_3 a1_4 a1_5))) = some r := h
 clear h
 have HC3 := Aside0.mk H
 clear H
 go_enter Try.func34, Try.ntmps34
 go_upto_region 1 with (first | ((with_reducible refine gate_dst (N := 2) rfl ?_); (try (refine gate_guard (by rfl) ?_; dsimp only)); refine bx_ 2 #[.slice A0_0 l0_0.length c0_0] 46 ?_; intro gb101 hg w4 hbox hb; have BK101 := Aside0.mk (hbox); have GW101 := ge_ hg HB; have GE101 := GW101; replace HB := sb_ HB hb; clear hb hbox hg) | ((with_reducible refine gate_dst (N := 3) rfl ?_); (try (refine gate_guard (by rfl) ?_; dsimp only)); refine bx_ 3 #[.slice A1_0 l1_0.length c1_0, .string a1_1, .int .i64 a1_2, .int .i64 a1_3, .int .i64 a1_4, .int .i64 a1_5] 61 ?_; intro gb102 hg w5 hbox hb; have BK102 := Aside0.mk (hbox); have GW102 := ge1_ hg HB GE101; have GE102 := GW102; have NB101_102 := nl_ hg BK101; have NB102_101 := ng_ hg BK101; replace BK101 := lb_ BK101 hb; replace HB := sb1_ HB GE101 hb; clear hb hbox hg))
 repeat (go_quiet (first | ((with_reducible refine gate_dst (N := 2) rfl ?_); (try (refine gate_guard (by rfl) ?_; dsimp only)); refine bx_ 2 #[.slice A0_0 l0_0.length c0_0] 46 ?_; intro gb101 hg w4 hbox hb; have BK101 := Aside0.mk (hbox); have GW101 := ge_ hg HB; have GE101 := GW101; replace HB := sb_ HB hb; clear hb hbox hg) | ((with_reducible refine gate_dst (N := 3) rfl ?_); (try (refine gate_guard (by rfl) ?_; dsimp only)); refine bx_ 3 #[.slice A1_0 l1_0.length c1_0, .string a1_1, .int .i64 a1_2, .int .i64 a1_3, .int .i64 a1_4, .int .i64 a1_5] 61 ?_; intro gb102 hg w5 hbox hb; have BK102 := Aside0.mk (hbox); have GW102 := ge1_ hg HB GE101; have GE102 := GW102; have NB101_102 := nl_ hg BK101; have NB102_101 := ng_ hg BK101; replace BK101 := lb_ BK101 hb; replace HB := sb1_ HB GE101 hb; clear hb hbox hg)); go_upto_region 1 with (first | ((with_reducible refine gate_dst (N := 2) rfl ?_); (try (refine gate_guard (by rfl) ?_; dsimp only)); refine bx_ 2 #[.slice A0_0 l0_0.length c0_0] 46 ?_; intro gb101 hg w4 hbox hb; have BK101 := Aside0.mk (hbox); have GW101 := ge_ hg HB; have GE101 := GW101; replace HB := sb_ HB hb; clear hb hbox hg) | ((with_reducible refine gate_dst (N := 3) rfl ?_); (try (refine gate_guard (by rfl) ?_; dsimp only)); refine bx_ 3 #[.slice A1_0 l1_0.length c1_0, .string a1_1, .int .i64 a1_2, .int .i64 a1_3, .int .i64 a1_4, .int .i64 a1_5] 61 ?_; intro gb102 hg w5 hbox hb; have BK102 := Aside0.mk (hbox); have GW102 := ge1_ hg HB GE101; have GE102 := GW102; have NB101_102 := nl_ hg BK101; have NB102_101 := ng_ hg BK101; replace BK101 := lb_ BK101 hb; replace HB := sb1_ HB GE101 hb; clear hb hbox hg)))
 (try simp only [Act.put, List.setIfInBounds_toArray, List.set_cons_zero, List.set_cons_succ])
 go_cut [26] (fun v26 wc => ∃ (kq : Nat) (x26_2 : Bool), v26 = .bool x26_2 ∧ Aside0 (spec_StreamOk.j0 kq x26_2 l0_0 l1_0 a1_1 a1_2 a1_3 a1_4 a1_5 = some r) ∧ Aside0 (kq ≤ k) ∧ Aside0 (wc.heap[gb101]? = some (.cells #[(.slice A0_0 l0_0.length c0_0)] 46 (0, 0))) ∧ Aside0 (wc.heap[gb102]? = some (.cells #[(.slice A1_0 l1_0.length c1_0), .string a1_1, .int .i64 a1_2, .int .i64 a1_3, .int .i64 a1_4, .int .i64 a1_5] 61 (0, 0))) ∧ Aside0 (Below w.heap.size w wc))
 case first =>
  have H := HC3.out
  clear HC3
  obtain ⟨t103, A6, H⟩ := ob_ H
  by_cases c7 : t103 = true
  ·subst c7
   rw [if_pos rfl] at H
   by_cases c8 : (l1_0.length : Int) < 1
   ·rw [if_pos c8] at H
    have c8b0 := decide_eq_true c8
    have c8b1 : decide (l1_0.length < 1) = true := decide_eq_true (by omega)
    clear c8
    (first | rw [c8b0] | (simp only [i64_w, i32_w]; rw [c8b0]) | skip)
    have H' := Aside0.mk H
    clear H
    have hnb9 := NB101_102.out
    have hnc9 := NB102_101.out
    obtain ⟨hcz10_0, hfz10_0⟩ := d1_ BK101
    go_wp2_with (first | (go_at_call 26; (with_reducible refine (spec_GrammarOk.calls k _ _ l0_0 true _ ?side1 ?side2 A6.out).mono ?_); (case side1 => exact Kd.C_below HR0_0.out (be_ HB.out)); (case side2 => exact HC0_0.out); rintro e w11 ⟨rfl, hb⟩; replace BK101 := lb_ BK101 hb; replace BK102 := lb_ BK102 hb; replace HB := sb2_ HB GE101 GE102 hb; (try clear hb); obtain ⟨hcz12_0, hcz12_1, hcz12_2, hcz12_3, hcz12_4, hcz12_5, hfz12_0, hfz12_1, hfz12_2, hfz12_3, hfz12_4, hfz12_5⟩ := d6_ BK102))
    repeat (go_quiet (first | (go_at_call 26; (with_reducible refine (spec_GrammarOk.calls k _ _ l0_0 true _ ?side1 ?side2 A6.out).mono ?_); (case side1 => exact Kd.C_below HR0_0.out (be_ HB.out)); (case side2 => exact HC0_0.out); rintro e w11 ⟨rfl, hb⟩; replace BK101 := lb_ BK101 hb; replace BK102 := lb_ BK102 hb; replace HB := sb2_ HB GE101 GE102 hb; (try clear hb); obtain ⟨hcz12_0, hcz12_1, hcz12_2, hcz12_3, hcz12_4, hcz12_5, hfz12_0, hfz12_1, hfz12_2, hfz12_3, hfz12_4, hfz12_5⟩ := d6_ BK102)); try go_wp2_with (first | (go_at_call 26; (with_reducible refine (spec_GrammarOk.calls k _ _ l0_0 true _ ?side1 ?side2 A6.out).mono ?_); (case side1 => exact Kd.C_below HR0_0.out (be_ HB.out)); (case side2 => exact HC0_0.out); rintro e w11 ⟨rfl, hb⟩; replace BK101 := lb_ BK101 hb; replace BK102 := lb_ BK102 hb; replace HB := sb2_ HB GE101 GE102 hb; (try clear hb); obtain ⟨hcz12_0, hcz12_1, hcz12_2, hcz12_3, hcz12_4, hcz12_5, hfz12_0, hfz12_1, hfz12_2, hfz12_3, hfz12_4, hfz12_5⟩ := d6_ BK102)))
    go_meet
    case rel => exact ⟨_, (true), rs_, H', ⟨by first | omega | exact Nat.le_refl _⟩, ⟨bk_ BK101.out⟩, ⟨bk_ BK102.out⟩, ⟨be2_ HB.out GE101.out GE102.out⟩⟩
   ·rw [if_neg c8] at H
    have c8b0 := decide_eq_false c8
    have c8b1 : decide (l1_0.length < 1) = false := decide_eq_false (by omega)
    clear c8
    (first | rw [c8b0] | (simp only [i64_w, i32_w]; rw [c8b0]) | skip)
    by_cases c13 : (l1_0.length : Int) > 20
    ·rw [if_pos c13] at H
     have c13b0 : decide (20 < (l1_0.length : Int)) = true := decide_eq_true c13
     have c13b1 : decide (20 < l1_0.length) = true := decide_eq_true (by omega)
     clear c13
     have H' := Aside0.mk H
     clear H
     have hnb14 := NB101_102.out
     have hnc14 := NB102_101.out
     obtain ⟨hcz15_0, hfz15_0⟩ := d1_ BK101
     go_wp2_with (first | (go_at_call 26; (with_reducible refine (spec_GrammarOk.calls k _ _ l0_0 true _ ?side1 ?side2 A6.out).mono ?_); (case side1 => exact Kd.C_below HR0_0.out (be_ HB.out)); (case side2 => exact HC0_0.out); rintro e w16 ⟨rfl, hb⟩; replace BK101 := lb_ BK101 hb; replace BK102 := lb_ BK102 hb; replace HB := sb2_ HB GE101 GE102 hb; (try clear hb); obtain ⟨hcz17_0, hcz17_1, hcz17_2, hcz17_3, hcz17_4, hcz17_5, hfz17_0, hfz17_1, hfz17_2, hfz17_3, hfz17_4, hfz17_5⟩ := d6_ BK102))
     repeat (go_quiet (first | (go_at_call 26; (with_reducible refine (spec_GrammarOk.calls k _ _ l0_0 true _ ?side1 ?side2 A6.out).mono ?_); (case side1 => exact Kd.C_below HR0_0.out (be_ HB.out)); (case side2 => exact HC0_0.out); rintro e w16 ⟨rfl, hb⟩; replace BK101 := lb_ BK101 hb; replace BK102 := lb_ BK102 hb; replace HB := sb2_ HB GE101 GE102 hb; (try clear hb); obtain ⟨hcz17_0, hcz17_1, hcz17_2, hcz17_3, hcz17_4, hcz17_5, hfz17_0, hfz17_1, hfz17_2, hfz17_3, hfz17_4, hfz17_5⟩ := d6_ BK102)); try go_wp2_with (first | (go_at_call 26; (with_reducible refine (spec_GrammarOk.calls k _ _ l0_0 true _ ?side1 ?side2 A6.out).mono ?_); (case side1 => exact Kd.C_below HR0_0.out (be_ HB.out)); (case side2 => exact HC0_0.out); rintro e w16 ⟨rfl, hb⟩; replace BK101 := lb_ BK101 hb; replace BK102 := lb_ BK102 hb; replace HB := sb2_ HB GE101 GE102 hb; (try clear hb); obtain ⟨hcz17_0, hcz17_1, hcz17_2, hcz17_3, hcz17_4, hcz17_5, hfz17_0, hfz17_1, hfz17_2, hfz17_3, hfz17_4, hfz17_5⟩ := d6_ BK102)))
     go_meet
     case rel => exact ⟨_, (true), rs_, H', ⟨by first | omega | exact Nat.le_refl _⟩, ⟨bk_ BK101.out⟩, ⟨bk_ BK102.out⟩, ⟨be2_ HB.out GE101.out GE102.out⟩⟩
    ·rw [if_neg c13] at H
     have c13b0 : decide (20 < (l1_0.length : Int)) = false := decide_eq_false c13
     have c13b1 : decide (20 < l1_0.length) = false := decide_eq_false (by omega)
     clear c13
     have H' := Aside0.mk H
     clear H
     have hnb18 := NB101_102.out
     have hnc18 := NB102_101.out
     obtain ⟨hcz19_0, hfz19_0⟩ := d1_ BK101
     go_wp2_with (first | (go_at_call 26; (with_reducible refine (spec_GrammarOk.calls k _ _ l0_0 true _ ?side1 ?side2 A6.out).mono ?_); (case side1 => exact Kd.C_below HR0_0.out (be_ HB.out)); (case side2 => exact HC0_0.out); rintro e w20 ⟨rfl, hb⟩; replace BK101 := lb_ BK101 hb; replace BK102 := lb_ BK102 hb; replace HB := sb2_ HB GE101 GE102 hb; (try clear hb); obtain ⟨hcz21_0, hcz21_1, hcz21_2, hcz21_3, hcz21_4, hcz21_5, hfz21_0, hfz21_1, hfz21_2, hfz21_3, hfz21_4, hfz21_5⟩ := d6_ BK102))
     repeat (go_quiet (first | (go_at_call 26; (with_reducible refine (spec_GrammarOk.calls k _ _ l0_0 true _ ?side1 ?side2 A6.out).mono ?_); (case side1 => exact Kd.C_below HR0_0.out (be_ HB.out)); (case side2 => exact HC0_0.out); rintro e w20 ⟨rfl, hb⟩; replace BK101 := lb_ BK101 hb; replace BK102 := lb_ BK102 hb; replace HB := sb2_ HB GE101 GE102 hb; (try clear hb); obtain ⟨hcz21_0, hcz21_1, hcz21_2, hcz21_3, hcz21_4, hcz21_5, hfz21_0, hfz21_1, hfz21_2, hfz21_3, hfz21_4, hfz21_5⟩ := d6_ BK102)); try go_wp2_with (first | (go_at_call 26; (with_reducible refine (spec_GrammarOk.calls k _ _ l0_0 true _ ?side1 ?side2 A6.out).mono ?_); (case side1 => exact Kd.C_below HR0_0.out (be_ HB.out)); (case side2 => exact HC0_0.out); rintro e w20 ⟨rfl, hb⟩; replace BK101 := lb_ BK101 hb; replace BK102 := lb_ BK102 hb; replace HB := sb2_ HB GE101 GE102 hb; (try clear hb); obtain ⟨hcz21_0, hcz21_1, hcz21_2, hcz21_3, hcz21_4, hcz21_5, hfz21_0, hfz21_1, hfz21_2, hfz21_3, hfz21_4, hfz21_5⟩ := d6_ BK102)))
     go_meet
     case rel => exact ⟨_, (decide ((a1_1.size : Int) > 20000)), rs_, H', ⟨by first | omega | exact Nat.le_refl _⟩, ⟨bk_ BK101.out⟩, ⟨bk_ BK102.out⟩, ⟨be2_ HB.out GE101.out GE102.out⟩⟩
  ·replace c7 := Bool.eq_false_iff.mpr c7
   subst c7
   rw [if_neg nft_] at H
   have H' := Aside0.mk H
   clear H
   have hnb22 := NB101_102.out
   have hnc22 := NB102_101.out
   obtain ⟨hcz23_0, hfz23_0⟩ := d1_ BK101
   go_wp2_with (first | (go_at_call 26; (with_reducible refine (spec_GrammarOk.calls k _ _ l0_0 false _ ?side1 ?side2 A6.out).mono ?_); (case side1 => exact Kd.C_below HR0_0.out (be_ HB.out)); (case side2 => exact HC0_0.out); rintro e w24 ⟨rfl, hb⟩; replace BK101 := lb_ BK101 hb; replace BK102 := lb_ BK102 hb; replace HB := sb2_ HB GE101 GE102 hb; (try clear hb)))
   repeat (go_quiet (first | (go_at_call 26; (with_reducible refine (spec_GrammarOk.calls k _ _ l0_0 false _ ?side1 ?side2 A6.out).mono ?_); (case side1 => exact Kd.C_below HR0_0.out (be_ HB.out)); (case side2 => exact HC0_0.out); rintro e w24 ⟨rfl, hb⟩; replace BK101 := lb_ BK101 hb; replace BK102 := lb_ BK102 hb; replace HB := sb2_ HB GE101 GE102 hb; (try clear hb))); try go_wp2_with (first | (go_at_call 26; (with_reducible refine (spec_GrammarOk.calls k _ _ l0_0 false _ ?side1 ?side2 A6.out).mono ?_); (case side1 => exact Kd.C_below HR0_0.out (be_ HB.out)); (case side2 => exact HC0_0.out); rintro e w24 ⟨rfl, hb⟩; replace BK101 := lb_ BK101 hb; replace BK102 := lb_ BK102 hb; replace HB := sb2_ HB GE101 GE102 hb; (try clear hb))))
   go_meet
   case rel => exact ⟨_, (true), rs_, H', ⟨by first | omega | exact Nat.le_refl _⟩, ⟨bk_ BK101.out⟩, ⟨bk_ BK102.out⟩, ⟨be2_ HB.out GE101.out GE102.out⟩⟩
 case rest =>
  clear HC3
  try clear c7
  try clear c8
  try clear c8b0
  try clear c8b1
  try clear c13
  try clear c13b0
  try clear c13b1
  try clear hcz10_0
  try clear hcz12_0
  try clear hcz12_1
  try clear hcz12_2
  try clear hcz12_3
  try clear hcz12_4
  try clear hcz12_5
  try clear hcz15_0
  try clear hcz17_0
  try clear hcz17_1
  try clear hcz17_2
  try clear hcz17_3
  try clear hcz17_4
  try clear hcz17_5
  try clear hcz19_0
  try clear hcz21_0
  try clear hcz21_1
  try clear hcz21_2
  try clear hcz21_3
  try clear hcz21_4
  try clear hcz21_5
  try clear hcz23_0
  try clear hfz10_0
  try clear hfz12_0
  try clear hfz12_1
  try clear hfz12_2
  try clear hfz12_3
  try clear hfz12_4
  try clear hfz12_5
  try clear hfz15_0
  try clear hfz17_0
  try clear hfz17_1
  try clear hfz17_2
  try clear hfz17_3
  try clear hfz17_4
  try clear hfz17_5
  try clear hfz19_0
  try clear hfz21_0
  try clear hfz21_1
  try clear hfz21_2
  try clear hfz21_3
  try clear hfz21_4
  try clear hfz21_5
  try clear hfz23_0
  obtain ⟨kq, x26_2, rfl, HA, HJ2, BK101, BK102, HB⟩ := hcut
  cases kq with
  | zero => exact absurd HA.out (by simp [spec_StreamOk.j0])
  | succ kj2 =>
   have H := HA.out
   clear HA
   simp only [spec_StreamOk.j0] at H
   by_cases c25 : x26_2 = true
   ·subst c25
    rw [if_pos rfl] at H
    obtain rfl := Option.some.inj H
    go_wp2
    repeat (go_quiet (fail); try go_wp2)
    go_ret
    exact ⟨rt_, be2_ HB.out GE101.out GE102.out⟩
   ·replace c25 := Bool.eq_false_iff.mpr c25
    subst c25
    rw [if_neg nft_] at H
    have H' := Aside0.mk H
    clear H
    go_wp2
    repeat (go_quiet (fail); try go_wp2)
    go_loopg [5] kj2 (fun kq v5 w' => ∃ (x5_2 : Int), v5 = .int .i64 x5_2 ∧ Aside0 (spec_StreamOk.l0 kq x5_2 l0_0 l1_0 a1_1 a1_2 a1_3 a1_4 a1_5 = some r) ∧ Aside0 (kq ≤ kj2) ∧ Aside0 (w'.heap[gb101]? = some (.cells #[(.slice A0_0 l0_0.length c0_0)] 46 (0, 0))) ∧ Aside0 (w'.heap[gb102]? = some (.cells #[(.slice A1_0 l1_0.length c1_0), .string a1_1, .int .i64 a1_2, .int .i64 a1_3, .int .i64 a1_4, .int .i64 a1_5] 61 (0, 0))) ∧ Aside0 (Below w.heap.size w w'))
    case atStart => exact ⟨(0), rs_, H', ⟨Nat.le_refl _⟩, ⟨bk_ BK101.out⟩, ⟨bk_ BK102.out⟩, ⟨be2_ HB.out GE101.out GE102.out⟩⟩
    case round =>
     clear H'
     try clear c7
     try clear c8
     try clear c8b0
     try clear c8b1
     try clear c13
     try clear c13b0
     try clear c13b1
     try clear c25
     try clear hcz10_0
     try clear hcz12_0
     try clear hcz12_1
     try clear hcz12_2
     try clear hcz12_3
     try clear hcz12_4
     try clear hcz12_5
     try clear hcz15_0
     try clear hcz17_0
     try clear hcz17_1
     try clear hcz17_2
     try clear hcz17_3
     try clear hcz17_4
     try clear hcz17_5
     try clear hcz19_0
     try clear hcz21_0
     try clear hcz21_1
     try clear hcz21_2
     try clear hcz21_3
     try clear hcz21_4
     try clear hcz21_5
     try clear hcz23_0
     try clear hfz10_0
     try clear hfz12_0
     try clear hfz12_1
     try clear hfz12_2
     try clear hfz12_3
     try clear hfz12_4
     try clear hfz12_5
     try clear hfz15_0
     try clear hfz17_0
     try clear hfz17_1
     try clear hfz17_2
     try clear hfz17_3
     try clear hfz17_4
     try clear hfz17_5
     try clear hfz19_0
     try clear hfz21_0
     try clear hfz21_1
     try clear hfz21_2
     try clear hfz21_3
     try clear hfz21_4
     try clear hfz21_5
     try clear hfz23_0
     obtain ⟨x5_2, rfl, HA, HK2, BK101, BK102, HB⟩ := hrel
     cases gk with
     | zero => exact absurd HA.out (by simp [spec_StreamOk.l0])
     | succ k2 =>
      have H := HA.out
      clear HA
      simp only [spec_StreamOk.l0] at H
      by_cases c26 : x5_2 < (l1_0.length : Int)
      ·rw [if_pos c26] at H
       have c26b0 := decide_eq_true c26
       clear c26
       by_cases c27 : 0 ≤ x5_2
       ·rw [if_pos c27] at H
        have c27b0 := decide_eq_true c27
        clear c27
        obtain ⟨t105, A28, H⟩ := ob_ H
        by_cases c29 : t105 = true
        ·subst c29
         rw [if_pos rfl] at H
         have H' := Aside0.mk H
         clear H
         have hnb30 := NB102_101.out
         have hnc30 := NB101_102.out
         obtain ⟨hcz31_0, hcz31_1, hcz31_2, hcz31_3, hcz31_4, hcz31_5, hfz31_0, hfz31_1, hfz31_2, hfz31_3, hfz31_4, hfz31_5⟩ := d6_ BK102
         have p104 : 0 ≤ (x5_2 : Int) := of_decide_eq_true as_
         have q104 : x5_2 < (l1_0.length : Int) := of_decide_eq_true as_
         obtain ⟨ad104, e104, hx104_0⟩ := Kd.at_int HR1_0.out x5_2 p104 q104
         cases e104
         replace hx104_0 := mv_ HB.out hx104_0
         replace p104 := eq_true p104
         replace q104 := eq_true q104
         obtain ⟨hcz32_0, hfz32_0⟩ := d1_ BK101
         go_wp2_with (first | (go_at_call 89; (with_reducible refine (spec_l1In.calls (rd l1_0 x5_2) 0 (wrap64 ((l0_0.length : Int) - 1)) true _ A28.out).mono ?_); rintro e w' ⟨rfl, ⟨nd, rfl⟩⟩; (try first | exact ⟨rfl, _, World.drewN_drewN _ _ _⟩ | exact ⟨rfl, _, Eq.trans (World.drewN_drewN _ _ _) (congrArg (World.drewN _) (Nat.add_assoc _ _ _))⟩)))
         repeat (go_quiet (first | (go_at_call 89; (with_reducible refine (spec_l1In.calls (rd l1_0 x5_2) 0 (wrap64 ((l0_0.length : Int) - 1)) true _ A28.out).mono ?_); rintro e w' ⟨rfl, ⟨nd, rfl⟩⟩; (try first | exact ⟨rfl, _, World.drewN_drewN _ _ _⟩ | exact ⟨rfl, _, Eq.trans (World.drewN_drewN _ _ _) (congrArg (World.drewN _) (Nat.add_assoc _ _ _))⟩))); try go_wp2_with (first | (go_at_call 89; (with_reducible refine (spec_l1In.calls (rd l1_0 x5_2) 0 (wrap64 ((l0_0.length : Int) - 1)) true _ A28.out).mono ?_); rintro e w' ⟨rfl, ⟨nd, rfl⟩⟩; (try first | exact ⟨rfl, _, World.drewN_drewN _ _ _⟩ | exact ⟨rfl, _, Eq.trans (World.drewN_drewN _ _ _) (congrArg (World.drewN _) (Nat.add_assoc _ _ _))⟩))))
         go_roundg k2
         case measure => have := HJ2.out; have := HK2.out; omega
         case rel => exact ⟨(wrap64 (x5_2 + 1)), rs_, H', ⟨by have := HJ2.out; have := HK2.out; omega⟩, ⟨bk_ BK101.out⟩, ⟨bk_ BK102.out⟩, ⟨be2_ HB.out GE101.out GE102.out⟩⟩
        ·replace c29 := Bool.eq_false_iff.mpr c29
         subst c29
         rw [if_neg nft_] at H
         obtain rfl := Option.some.inj H
         have hnb33 := NB102_101.out
         have hnc33 := NB101_102.out
         obtain ⟨hcz34_0, hcz34_1, hcz34_2, hcz34_3, hcz34_4, hcz34_5, hfz34_0, hfz34_1, hfz34_2, hfz34_3, hfz34_4, hfz34_5⟩ := d6_ BK102
         have p104 : 0 ≤ (x5_2 : Int) := of_decide_eq_true as_
         have q104 : x5_2 < (l1_0.length : Int) := of_decide_eq_true as_
         obtain ⟨ad104, e104, hx104_0⟩ := Kd.at_int HR1_0.out x5_2 p104 q104
         cases e104
         replace hx104_0 := mv_ HB.out hx104_0
         replace p104 := eq_true p104
         replace q104 := eq_true q104
         obtain ⟨hcz35_0, hfz35_0⟩ := d1_ BK101
         go_wp2_with (first | (go_at_call 89; (with_reducible refine (spec_l1In.calls (rd l1_0 x5_2) 0 (wrap64 ((l0_0.length : Int) - 1)) false _ A28.out).mono ?_); rintro e w' ⟨rfl, ⟨nd, rfl⟩⟩; (try first | exact ⟨rfl, _, World.drewN_drewN _ _ _⟩ | exact ⟨rfl, _, Eq.trans (World.drewN_drewN _ _ _) (congrArg (World.drewN _) (Nat.add_assoc _ _ _))⟩)))
         repeat (go_quiet (first | (go_at_call 89; (with_reducible refine (spec_l1In.calls (rd l1_0 x5_2) 0 (wrap64 ((l0_0.length : Int) - 1)) false _ A28.out).mono ?_); rintro e w' ⟨rfl, ⟨nd, rfl⟩⟩; (try first | exact ⟨rfl, _, World.drewN_drewN _ _ _⟩ | exact ⟨rfl, _, Eq.trans (World.drewN_drewN _ _ _) (congrArg (World.drewN _) (Nat.add_assoc _ _ _))⟩))); try go_wp2_with (first | (go_at_call 89; (with_reducible refine (spec_l1In.calls (rd l1_0 x5_2) 0 (wrap64 ((l0_0.length : Int) - 1)) false _ A28.out).mono ?_); rintro e w' ⟨rfl, ⟨nd, rfl⟩⟩; (try first | exact ⟨rfl, _, World.drewN_drewN _ _ _⟩ | exact ⟨rfl, _, Eq.trans (World.drewN_drewN _ _ _) (congrArg (World.drewN _) (Nat.add_assoc _ _ _))⟩))))
         go_ret
         exact ⟨rt_, be2_ HB.out GE101.out GE102.out⟩
       ·rw [if_neg c27] at H
        exact absurd H (by simp)
      ·rw [if_neg c26] at H
       have c26b0 := decide_eq_false c26
       clear c26
       obtain ⟨t106, A36, H⟩ := ob_ H
       by_cases c37 : t106 = true
       ·subst c37
        rw [if_pos rfl] at H
        obtain ⟨t107, A38, H⟩ := ob_ H
        by_cases c39 : t107 = true
        ·subst c39
         rw [if_pos rfl] at H
         obtain ⟨t108, A40, H⟩ := ob_ H
         by_cases c41 : t108 = true
         ·subst c41
          rw [if_pos rfl] at H
          by_cases c42 : a1_5 = 0
          ·rw [if_pos c42] at H
           have c42b0 : (a1_5 == 0) = true := beq_iff_eq.mpr c42
           have c42b1 : (a1_5 != 0) = false := bne_eq_false_iff_eq.mpr c42
           clear c42
           obtain rfl := Option.some.inj H
           have hnb43 := NB102_101.out
           have hnc43 := NB101_102.out
           obtain ⟨hcz44_0, hcz44_1, hcz44_2, hcz44_3, hcz44_4, hcz44_5, hfz44_0, hfz44_1, hfz44_2, hfz44_3, hfz44_4, hfz44_5⟩ := d6_ BK102
           go_wp2_with (first | (go_at_call 89; (with_reducible refine (spec_l1In.calls a1_2 0 1000000000000 true _ A36.out).mono ?_); rintro e w' ⟨rfl, ⟨nd, rfl⟩⟩; (try first | exact ⟨rfl, _, World.drewN_drewN _ _ _⟩ | exact ⟨rfl, _, Eq.trans (World.drewN_drewN _ _ _) (congrArg (World.drewN _) (Nat.add_assoc _ _ _))⟩)) | (go_at_call 89; (with_reducible refine (spec_l1In.calls a1_3 1 1000000000000 true _ A38.out).mono ?_); rintro e w' ⟨rfl, ⟨nd, rfl⟩⟩; (try first | exact ⟨rfl, _, World.drewN_drewN _ _ _⟩ | exact ⟨rfl, _, Eq.trans (World.drewN_drewN _ _ _) (congrArg (World.drewN _) (Nat.add_assoc _ _ _))⟩)) | (go_at_call 89; (with_reducible refine (spec_l1In.calls a1_4 1 1000000000000 true _ A40.out).mono ?_); rintro e w' ⟨rfl, ⟨nd, rfl⟩⟩; (try first | exact ⟨rfl, _, World.drewN_drewN _ _ _⟩ | exact ⟨rfl, _, Eq.trans (World.drewN_drewN _ _ _) (congrArg (World.drewN _) (Nat.add_assoc _ _ _))⟩)))
           repeat (go_quiet (first | (go_at_call 89; (with_reducible refine (spec_l1In.calls a1_2 0 1000000000000 true _ A36.out).mono ?_); rintro e w' ⟨rfl, ⟨nd, rfl⟩⟩; (try first | exact ⟨rfl, _, World.drewN_drewN _ _ _⟩ | exact ⟨rfl, _, Eq.trans (World.drewN_drewN _ _ _) (congrArg (World.drewN _) (Nat.add_assoc _ _ _))⟩)) | (go_at_call 89; (with_reducible refine (spec_l1In.calls a1_3 1 1000000000000 true _ A38.out).mono ?_); rintro e w' ⟨rfl, ⟨nd, rfl⟩⟩; (try first | exact ⟨rfl, _, World.drewN_drewN _ _ _⟩ | exact ⟨rfl, _, Eq.trans (World.drewN_drewN _ _ _) (congrArg (World.drewN _) (Nat.add_assoc _ _ _))⟩)) | (go_at_call 89; (with_reducible refine (spec_l1In.calls a1_4 1 1000000000000 true _ A40.out).mono ?_); rintro e w' ⟨rfl, ⟨nd, rfl⟩⟩; (try first | exact ⟨rfl, _, World.drewN_drewN _ _ _⟩ | exact ⟨rfl, _, Eq.trans (World.drewN_drewN _ _ _) (congrArg (World.drewN _) (Nat.add_assoc _ _ _))⟩))); try go_wp2_with (first | (go_at_call 89; (with_reducible refine (spec_l1In.calls a1_2 0 1000000000000 true _ A36.out).mono ?_); rintro e w' ⟨rfl, ⟨nd, rfl⟩⟩; (try first | exact ⟨rfl, _, World.drewN_drewN _ _ _⟩ | exact ⟨rfl, _, Eq.trans (World.drewN_drewN _ _ _) (congrArg (World.drewN _) (Nat.add_assoc _ _ _))⟩)) | (go_at_call 89; (with_reducible refine (spec_l1In.calls a1_3 1 1000000000000 true _ A38.out).mono ?_); rintro e w' ⟨rfl, ⟨nd, rfl⟩⟩; (try first | exact ⟨rfl, _, World.drewN_drewN _ _ _⟩ | exact ⟨rfl, _, Eq.trans (World.drewN_drewN _ _ _) (congrArg (World.drewN _) (Nat.add_assoc _ _ _))⟩)) | (go_at_call 89; (with_reducible refine (spec_l1In.calls a1_4 1 1000000000000 true _ A40.out).mono ?_); rintro e w' ⟨rfl, ⟨nd, rfl⟩⟩; (try first | exact ⟨rfl, _, World.drewN_drewN _ _ _⟩ | exact ⟨rfl, _, Eq.trans (World.drewN_drewN _ _ _) (congrArg (World.drewN _) (Nat.add_assoc _ _ _))⟩))))
           go_ret
           exact ⟨rt_, be2_ HB.out GE101.out GE102.out⟩
          ·rw [if_neg c42] at H
           have c42b0 : (a1_5 == 0) = false := beq_eq_false_iff_ne.mpr c42
           have c42b1 : (a1_5 != 0) = true := bne_iff_ne.mpr c42
           obtain ⟨t109, A45, H⟩ := ob_ H
           obtain rfl := Option.some.inj H
           have hnb46 := NB102_101.out
           have hnc46 := NB101_102.out
           obtain ⟨hcz47_0, hcz47_1, hcz47_2, hcz47_3, hcz47_4, hcz47_5, hfz47_0, hfz47_1, hfz47_2, hfz47_3, hfz47_4, hfz47_5⟩ := d6_ BK102
           go_wp2_with (first | (go_at_call 89; (with_reducible refine (spec_l1In.calls a1_2 0 1000000000000 true _ A36.out).mono ?_); rintro e w' ⟨rfl, ⟨nd, rfl⟩⟩; (try first | exact ⟨rfl, _, World.drewN_drewN _ _ _⟩ | exact ⟨rfl, _, Eq.trans (World.drewN_drewN _ _ _) (congrArg (World.drewN _) (Nat.add_assoc _ _ _))⟩)) | (go_at_call 89; (with_reducible refine (spec_l1In.calls a1_3 1 1000000000000 true _ A38.out).mono ?_); rintro e w' ⟨rfl, ⟨nd, rfl⟩⟩; (try first | exact ⟨rfl, _, World.drewN_drewN _ _ _⟩ | exact ⟨rfl, _, Eq.trans (World.drewN_drewN _ _ _) (congrArg (World.drewN _) (Nat.add_assoc _ _ _))⟩)) | (go_at_call 89; (with_reducible refine (spec_l1In.calls a1_4 1 1000000000000 true _ A40.out).mono ?_); rintro e w' ⟨rfl, ⟨nd, rfl⟩⟩; (try first | exact ⟨rfl, _, World.drewN_drewN _ _ _⟩ | exact ⟨rfl, _, Eq.trans (World.drewN_drewN _ _ _) (congrArg (World.drewN _) (Nat.add_assoc _ _ _))⟩)) | (go_at_call 89; (with_reducible refine (spec_l1In.calls a1_5 2 4 t109 _ A45.out).mono ?_); rintro e w' ⟨rfl, ⟨nd, rfl⟩⟩; (try first | exact ⟨rfl, _, World.drewN_drewN _ _ _⟩ | exact ⟨rfl, _, Eq.trans (World.drewN_drewN _ _ _) (congrArg (World.drewN _) (Nat.add_assoc _ _ _))⟩)))
           repeat (go_quiet (first | (go_at_call 89; (with_reducible refine (spec_l1In.calls a1_2 0 1000000000000 true _ A36.out).mono ?_); rintro e w' ⟨rfl, ⟨nd, rfl⟩⟩; (try first | exact ⟨rfl, _, World.drewN_drewN _ _ _⟩ | exact ⟨rfl, _, Eq.trans (World.drewN_drewN _ _ _) (congrArg (World.drewN _) (Nat.add_assoc _ _ _))⟩)) | (go_at_call 89; (with_reducible refine (spec_l1In.calls a1_3 1 1000000000000 true _ A38.out).mono ?_); rintro e w' ⟨rfl, ⟨nd, rfl⟩⟩; (try first | exact ⟨rfl, _, World.drewN_drewN _ _ _⟩ | exact ⟨rfl, _, Eq.trans (World.drewN_drewN _ _ _) (congrArg (World.drewN _) (Nat.add_assoc _ _ _))⟩)) | (go_at_call 89; (with_reducible refine (spec_l1In.calls a1_4 1 1000000000000 true _ A40.out).mono ?_); rintro e w' ⟨rfl, ⟨nd, rfl⟩⟩; (try first | exact ⟨rfl, _, World.drewN_drewN _ _ _⟩ | exact ⟨rfl, _, Eq.trans (World.drewN_drewN _ _ _) (congrArg (World.drewN _) (Nat.add_assoc _ _ _))⟩)) | (go_at_call 89; (with_reducible refine (spec_l1In.calls a1_5 2 4 t109 _ A45.out).mono ?_); rintro e w' ⟨rfl, ⟨nd, rfl⟩⟩; (try first | exact ⟨rfl, _, World.drewN_drewN _ _ _⟩ | exact ⟨rfl, _, Eq.trans (World.drewN_drewN _ _ _) (congrArg (World.drewN _) (Nat.add_assoc _ _ _))⟩))); try go_wp2_with (first | (go_at_call 89; (with_reducible refine (spec_l1In.calls a1_2 0 1000000000000 true _ A36.out).mono ?_); rintro e w' ⟨rfl, ⟨nd, rfl⟩⟩; (try first | exact ⟨rfl, _, World.drewN_drewN _ _ _⟩ | exact ⟨rfl, _, Eq.trans (World.drewN_drewN _ _ _) (congrArg (World.drewN _) (Nat.add_assoc _ _ _))⟩)) | (go_at_call 89; (with_reducible refine (spec_l1In.calls a1_3 1 1000000000000 true _ A38.out).mono ?_); rintro e w' ⟨rfl, ⟨nd, rfl⟩⟩; (try first | exact ⟨rfl, _, World.drewN_drewN _ _ _⟩ | exact ⟨rfl, _, Eq.trans (World.drewN_drewN _ _ _) (congrArg (World.drewN _) (Nat.add_assoc _ _ _))⟩)) | (go_at_call 89; (with_reducible refine (spec_l1In.calls a1_4 1 1000000000000 true _ A40.out).mono ?_); rintro e w' ⟨rfl, ⟨nd, rfl⟩⟩; (try first | exact ⟨rfl, _, World.drewN_drewN _ _ _⟩ | exact ⟨rfl, _, Eq.trans (World.drewN_drewN _ _ _) (congrArg (World.drewN _) (Nat.add_assoc _ _ _))⟩)) | (go_at_call 89; (with_reducible refine (spec_l1In.calls a1_5 2 4 t109 _ A45.out).mono ?_); rintro e w' ⟨rfl, ⟨nd, rfl⟩⟩; (try first | exact ⟨rfl, _, World.drewN_drewN _ _ _⟩ | exact ⟨rfl, _, Eq.trans (World.drewN_drewN _ _ _) (congrArg (World.drewN _) (Nat.add_assoc _ _ _))⟩))))
           go_ret
           exact ⟨rt_, be2_ HB.out GE101.out GE102.out⟩
         ·replace c41 := Bool.eq_false_iff.mpr c41
          subst c41
          rw [if_neg nft_] at H
          obtain rfl := Option.some.inj H
          have hnb48 := NB102_101.out
          have hnc48 := NB101_102.out
          obtain ⟨hcz49_0, hcz49_1, hcz49_2, hcz49_3, hcz49_4, hcz49_5, hfz49_0, hfz49_1, hfz49_2, hfz49_3, hfz49_4, hfz49_5⟩ := d6_ BK102
          go_wp2_with (first | (go_at_call 89; (with_reducible refine (spec_l1In.calls a1_2 0 1000000000000 true _ A36.out).mono ?_); rintro e w' ⟨rfl, ⟨nd, rfl⟩⟩; (try first | exact ⟨rfl, _, World.drewN_drewN _ _ _⟩ | exact ⟨rfl, _, Eq.trans (World.drewN_drewN _ _ _) (congrArg (World.drewN _) (Nat.add_assoc _ _ _))⟩)) | (go_at_call 89; (with_reducible refine (spec_l1In.calls a1_3 1 1000000000000 true _ A38.out).mono ?_); rintro e w' ⟨rfl, ⟨nd, rfl⟩⟩; (try first | exact ⟨rfl, _, World.drewN_drewN _ _ _⟩ | exact ⟨rfl, _, Eq.trans (World.drewN_drewN _ _ _) (congrArg (World.drewN _) (Nat.add_assoc _ _ _))⟩)) | (go_at_call 89; (with_reducible refine (spec_l1In.calls a1_4 1 1000000000000 false _ A40.out).mono ?_); rintro e w' ⟨rfl, ⟨nd, rfl⟩⟩; (try first | exact ⟨rfl, _, World.drewN_drewN _ _ _⟩ | exact ⟨rfl, _, Eq.trans (World.drewN_drewN _ _ _) (congrArg (World.drewN _) (Nat.add_assoc _ _ _))⟩)))
          repeat (go_quiet (first | (go_at_call 89; (with_reducible refine (spec_l1In.calls a1_2 0 1000000000000 true _ A36.out).mono ?_); rintro e w' ⟨rfl, ⟨nd, rfl⟩⟩; (try first | exact ⟨rfl, _, World.drewN_drewN _ _ _⟩ | exact ⟨rfl, _, Eq.trans (World.drewN_drewN _ _ _) (congrArg (World.drewN _) (Nat.add_assoc _ _ _))⟩)) | (go_at_call 89; (with_reducible refine (spec_l1In.calls a1_3 1 1000000000000 true _ A38.out).mono ?_); rintro e w' ⟨rfl, ⟨nd, rfl⟩⟩; (try first | exact ⟨rfl, _, World.drewN_drewN _ _ _⟩ | exact ⟨rfl, _, Eq.trans (World.drewN_drewN _ _ _) (congrArg (World.drewN _) (Nat.add_assoc _ _ _))⟩)) | (go_at_call 89; (with_reducible refine (spec_l1In.calls a1_4 1 1000000000000 false _ A40.out).mono ?_); rintro e w' ⟨rfl, ⟨nd, rfl⟩⟩; (try first | exact ⟨rfl, _, World.drewN_drewN _ _ _⟩ | exact ⟨rfl, _, Eq.trans (World.drewN_drewN _ _ _) (congrArg (World.drewN _) (Nat.add_assoc _ _ _))⟩))); try go_wp2_with (first | (go_at_call 89; (with_reducible refine (spec_l1In.calls a1_2 0 1000000000000 true _ A36.out).mono ?_); rintro e w' ⟨rfl, ⟨nd, rfl⟩⟩; (try first | exact ⟨rfl, _, World.drewN_drewN _ _ _⟩ | exact ⟨rfl, _, Eq.trans (World.drewN_drewN _ _ _) (congrArg (World.drewN _) (Nat.add_assoc _ _ _))⟩)) | (go_at_call 89; (with_reducible refine (spec_l1In.calls a1_3 1 1000000000000 true _ A38.out).mono ?_); rintro e w' ⟨rfl, ⟨nd, rfl⟩⟩; (try first | exact ⟨rfl, _, World.drewN_drewN _ _ _⟩ | exact ⟨rfl, _, Eq.trans (World.drewN_drewN _ _ _) (congrArg (World.drewN _) (Nat.add_assoc _ _ _))⟩)) | (go_at_call 89; (with_reducible refine (spec_l1In.calls a1_4 1 1000000000000 false _ A40.out).mono ?_); rintro e w' ⟨rfl, ⟨nd, rfl⟩⟩; (try first | exact ⟨rfl, _, World.drewN_drewN _ _ _⟩ | exact ⟨rfl, _, Eq.trans (World.drewN_drewN _ _ _) (congrArg (World.drewN _) (Nat.add_assoc _ _ _))⟩))))
          go_ret
          exact ⟨rt_, be2_ HB.out GE101.out GE102.out⟩
        ·replace c39 := Bool.eq_false_iff.mpr c39
         subst c39
         rw [if_neg nft_] at H
         obtain rfl := Option.some.inj H
         have hnb50 := NB102_101.out
         have hnc50 := NB101_102.out
         obtain ⟨hcz51_0, hcz51_1, hcz51_2, hcz51_3, hcz51_4, hcz51_5, hfz51_0, hfz51_1, hfz51_2, hfz51_3, hfz51_4, hfz51_5⟩ := d6_ BK102
         go_wp2_with (first | (go_at_call 89; (with_reducible refine (spec_l1In.calls a1_2 0 1000000000000 true _ A36.out).mono ?_); rintro e w' ⟨rfl, ⟨nd, rfl⟩⟩; (try first | exact ⟨rfl, _, World.drewN_drewN _ _ _⟩ | exact ⟨rfl, _, Eq.trans (World.drewN_drewN _ _ _) (congrArg (World.drewN _) (Nat.add_assoc _ _ _))⟩)) | (go_at_call 89; (with_reducible refine (spec_l1In.calls a1_3 1 1000000000000 false _ A38.out).mono ?_); rintro e w' ⟨rfl, ⟨nd, rfl⟩⟩; (try first | exact ⟨rfl, _, World.drewN_drewN _ _ _⟩ | exact ⟨rfl, _, Eq.trans (World.drewN_drewN _ _ _) (congrArg (World.drewN _) (Nat.add_assoc _ _ _))⟩)))
         repeat (go_quiet (first | (go_at_call 89; (with_reducible refine (spec_l1In.calls a1_2 0 1000000000000 true _ A36.out).mono ?_); rintro e w' ⟨rfl, ⟨nd, rfl⟩⟩; (try first | exact ⟨rfl, _, World.drewN_drewN _ _ _⟩ | exact ⟨rfl, _, Eq.trans (World.drewN_drewN _ _ _) (congrArg (World.drewN _) (Nat.add_assoc _ _ _))⟩)) | (go_at_call 89; (with_reducible refine (spec_l1In.calls a1_3 1 1000000000000 false _ A38.out).mono ?_); rintro e w' ⟨rfl, ⟨nd, rfl⟩⟩; (try first | exact ⟨rfl, _, World.drewN_drewN _ _ _⟩ | exact ⟨rfl, _, Eq.trans (World.drewN_drewN _ _ _) (congrArg (World.drewN _) (Nat.add_assoc _ _ _))⟩))); try go_wp2_with (first | (go_at_call 89; (with_reducible refine (spec_l1In.calls a1_2 0 1000000000000 true _ A36.out).mono ?_); rintro e w' ⟨rfl, ⟨nd, rfl⟩⟩; (try first | exact ⟨rfl, _, World.drewN_drewN _ _ _⟩ | exact ⟨rfl, _, Eq.trans (World.drewN_drewN _ _ _) (congrArg (World.drewN _) (Nat.add_assoc _ _ _))⟩)) | (go_at_call 89; (with_reducible refine (spec_l1In.calls a1_3 1 1000000000000 false _ A38.out).mono ?_); rintro e w' ⟨rfl, ⟨nd, rfl⟩⟩; (try first | exact ⟨rfl, _, World.drewN_drewN _ _ _⟩ | exact ⟨rfl, _, Eq.trans (World.drewN_drewN _ _ _) (congrArg (World.drewN _) (Nat.add_assoc _ _ _))⟩))))
         go_ret
         exact ⟨rt_, be2_ HB.out GE101.out GE102.out⟩
       ·replace c37 := Bool.eq_false_iff.mpr c37
        subst c37
        rw [if_neg nft_] at H
        obtain rfl := Option.some.inj H
        have hnb52 := NB102_101.out
        have hnc52 := NB101_102.out
        obtain ⟨hcz53_0, hcz53_1, hcz53_2, hcz53_3, hcz53_4, hcz53_5, hfz53_0, hfz53_1, hfz53_2, hfz53_3, hfz53_4, hfz53_5⟩ := d6_ BK102
        go_wp2_with (first | (go_at_call 89; (with_reducible refine (spec_l1In.calls a1_2 0 1000000000000 false _ A36.out).mono ?_); rintro e w' ⟨rfl, ⟨nd, rfl⟩⟩; (try first | exact ⟨rfl, _, World.drewN_drewN _ _ _⟩ | exact ⟨rfl, _, Eq.trans (World.drewN_drewN _ _ _) (congrArg (World.drewN _) (Nat.add_assoc _ _ _))⟩)))
        repeat (go_quiet (first | (go_at_call 89; (with_reducible refine (spec_l1In.calls a1_2 0 1000000000000 false _ A36.out).mono ?_); rintro e w' ⟨rfl, ⟨nd, rfl⟩⟩; (try first | exact ⟨rfl, _, World.drewN_drewN _ _ _⟩ | exact ⟨rfl, _, Eq.trans (World.drewN_drewN _ _ _) (congrArg (World.drewN _) (Nat.add_assoc _ _ _))⟩))); try go_wp2_with (first | (go_at_call 89; (with_reducible refine (spec_l1In.calls a1_2 0 1000000000000 false _ A36.out).mono ?_); rintro e w' ⟨rfl, ⟨nd, rfl⟩⟩; (try first | exact ⟨rfl, _, World.drewN_drewN _ _ _⟩ | exact ⟨rfl, _, Eq.trans (World.drewN_drewN _ _ _) (congrArg (World.drewN _) (Nat.add_assoc _ _ _))⟩))))
        go_ret
        exact ⟨rt_, be2_ HB.out GE101.out GE102.out⟩
end Go.Proofs.Ytijmhelacmjggaa.P
