/- The law FnExactCompile holds for every call: part 6 of 6 of the proof (the row). Conditions: none beyond what the given row says. -/
import Derived.Test.YtimdoghlnegpgaaMFnExactCompile4
import Derived.Test.YtimdoghlnegpgaaMFnExactCompile0
import Derived.Test.YtimdoghlnegpgaaMFnExactCompile1
import Derived.ChangeSlices
import Derived.ChangeArms
import Derived.SizedLaws
import Derived.Test.YtimdoghlnegpgaaRows
import Derived.WalkKit
import Derived.ProofKit
import Derived.OpenShut
import Derived.ShutString
import Derived.ChangeOld
import Derived.Below
/- What the law's marks of a slice of blocks with arms do: blocks whose arms lie apart keep lying apart, and hold the marks in order. -/
namespace Go.Proofs.Ytimdoghlnegpgaa.P
open Go.RowKit Go.Proofs.YtimdoghlnegpgaaW.PrintWords Go.Proofs.YtimdoghlnegpgaaW.PrintLast Go.Proofs.YtimdoghlnegpgaaW.PrintMore Go.Proofs.YtimdoghlnegpgaaEv
set_option linter.unusedVariables false
set_option linter.unusedSimpArgs false

def mcB (x : S99) : Nat := 2 + 3 * x.f1.length
def mkB (a : Int) (x : S99) : S99 := ⟨a, (List.range x.f1.length).map (mkArm (a + 1)), a + 1 + 3 * x.f1.length⟩
/-- How many marks blocks take. -/
def cntB : List S99 → Nat
  | [] => 0
  | x :: xs => mcB x + cntB xs
def mkBs : List S99 → Int → List S99
  | [], _ => []
  | x :: xs, a => mkB a x :: mkBs xs (a + mcB x)
theorem mkBs_length : ∀ (l : List S99) (a : Int), (mkBs l a).length = l.length
  | [], _ => rfl
  | x :: xs, a => by simp [mkBs, mkBs_length xs]
theorem cntB_take : ∀ (l : List S99) (i : Nat) (h : i < l.length), cntB (l.take (i + 1)) = cntB (l.take i) + mcB l[i]
  | x :: xs, 0, _ => by simp [cntB]
  | x :: xs, i + 1, h => by
    simp only [List.take_succ_cons, cntB, List.getElem_cons_succ]
    rw [cntB_take xs i (by simpa using h)]
    omega
theorem mkBs_get : ∀ (l : List S99) (a : Int) (i : Nat) (h : i < l.length), (mkBs l a)[i]? = some (mkB (a + cntB (l.take i)) l[i])
  | x :: xs, a, 0, _ => by simp [mkBs, cntB]
  | x :: xs, a, i + 1, h => by
    simp only [List.take_succ_cons, cntB, List.getElem_cons_succ, mkBs, List.getElem?_cons_succ]
    rw [mkBs_get xs _ i (by simpa using h), show a + (mcB x : Int) + (cntB (xs.take i) : Nat) = a + ((mcB x + cntB (xs.take i) : Nat) : Int) by omega]
theorem cntB_le (l : List S99) (i : Nat) : cntB (l.take i) ≤ cntB l := by
  induction l generalizing i with
  | nil => simp [cntB]
  | cons x xs ih =>
    cases i with
    | zero => simp [cntB]
    | succ i => simp only [List.take_succ_cons, cntB]; have := ih i; omega
set_option maxHeartbeats 8000000 in
set_option maxRecDepth 100000 in
theorem markCBlockS_walk (P0_ : Nat → Prop) (u : Value) (l0 : List S99) (a1 : Int) (h0 : 0 ≤ a1) (h1 : a1 + cntB l0 ≤ 9000000000000000000) (hlen : (l0.length : Int) ≤ 9000000000000000000) (w0 w : World) (hB : Below w0.heap.size w0 w) (ho0 : Kd.S k99 99 w w0.heap.size P0_ u l0) :
    Calls Try.prog 96 #[u, .int .i64 a1] w fun e w' => e = .returned (.int .i64 (a1 + cntB l0)) ∧ Kd.S k99 99 w' w0.heap.size P0_ u (mkBs l0 a1) ∧ Below w0.heap.size w0 w' ∧ Kept w w' P0_ := by
  have hln := mkBs_length l0 a1
  obtain ⟨A, c, rfl⟩ := Kd.S_slice ho0
  have HO := Aside0.mk ho0
  have HB := Aside0.mk hB
  go_enter Try.func96, Try.ntmps96
  go_wp2
  go_loopg [1, 5] l0.length (fun gg v1 v5 w' => ∃ kk : Nat, kk ≤ l0.length ∧ l0.length - kk ≤ gg ∧ v1 = .int .i64 (a1 + cntB (l0.take kk)) ∧ v5 = .int .i64 kk ∧ Aside0 (Kd.S k99 99 w' w0.heap.size P0_ (.slice A l0.length c) (part (mkBs l0 a1) l0 kk)) ∧ Aside0 (Below w0.heap.size w0 w') ∧ Aside0 (Kept w w' P0_))
  case atStart => exact ⟨0, Nat.zero_le _, by omega, by simp [cntB], rfl, by simpa [part] using HO, HB, ⟨Kept.refl _ _⟩⟩
  case round =>
    obtain ⟨kk, hkk, hg, rfl, rfl, HS, HB2, HK⟩ := hrel
    by_cases hlt : kk < l0.length
    · have hltz : (kk : Int) < (l0.length : Int) := by omega
      obtain ⟨g, cap, hv, hgw, _, _⟩ := Kd.S_form HS.out (by rw [part_length _ _ _ hln]; omega)
      have hA : A = some ⟨g, 0, none⟩ := by injection hv
      subst hA
      obtain ⟨oki, ce, hcl, hM, hcc, hfr, hoki, hH⟩ := Kd.S_elem HS.out z99 (kk : Int) (by omega) hltz
      rw [Int.toNat_natCast, part_get _ _ _ _ hln hlt] at hM
      obtain ⟨v1, rfl, hR⟩ := k99_openM hM
      obtain ⟨A1, c1, rfl⟩ := Kd.R_slice hR
      have hx0 : wr.cell? ⟨g, kk * 3, none⟩ = some (.int .i64 l0[kk].f0) := hcc 0 _ rfl
      have hx1 : wr.cell? ⟨g, kk * 3 + 1, none⟩ = some (.slice A1 l0[kk].f1.length c1) := hcc 1 _ rfl
      have hx2 : wr.cell? ⟨g, kk * 3 + 2, none⟩ = some (.int .i64 l0[kk].f2) := hcc 2 _ rfl
      have hf0 : wr.frozen? ⟨g, kk * 3, none⟩ = false := hfr 0
      have hf1 : wr.frozen? ⟨g, kk * 3 + 1, none⟩ = false := hfr 1
      have hf2 : wr.frozen? ⟨g, kk * 3 + 2, none⟩ = false := hfr 2
      have HR := Aside0.mk hR
      have HH := Aside0.mk hH
      have HI := Aside0.mk hoki
      have hcnt := cntB_take l0 kk hlt
      have hcle := cntB_le l0 (kk + 1)
      have hmk := Aside0.mk (mkBs_get l0 a1 kk hlt)
      obtain ⟨K, hK⟩ : ∃ K : Int, a1 + cntB (l0.take kk) = K := ⟨_, rfl⟩
      have hK1 : K + 2 + 3 * l0[kk].f1.length = a1 + cntB (l0.take (kk + 1)) := by rw [hcnt, ← hK]; unfold mcB; omega
      obtain ⟨k, hev⟩ := ev_get (laws_markArmS_ev l0[kk].f1 (K + 1) (by omega) (by omega))
      have HE := Aside0.mk hev
      clear hH hR hoki hcc hfr hcl hev hv hM
      rw [hK]
      have w1 : IntKind.i64.wrap (K + 1) = K + 1 := by rw [i64_w]; exact wrap_id (by omega) (by omega)
      have HP := Aside0.mk ((Kd.S_R HS.out).1 g rfl)
      have T1 : Aside0 True := ⟨trivial⟩
      have T2 : Aside0 True := ⟨trivial⟩
      go_wp2_with ((with_reducible refine gate_store (t := 2) (p := 16) rfl ?_); clear T1; refine store_event (t := 2) (p := 16) (v := ?vo_w10) (w1 := (wr.setCell ⟨g, kk * 3, none⟩ (.int .i64 K))) ?hg ?ho ?hn ?hr ?_; (case ho => rfl); (case hg => rfl); (case hn => rfl); (case hr => first | (go_simp; done) | (go_simp; rfl)); intro w10 hw; have hs := H_put HH.out (by omega) hltz 0 (.int .i64 K) (by decide) rfl; have hg1 : wr.grownBy w10 (some g) := (by rw [hw]; exact hs.2); replace HH := Aside0.mk (show Kd.H k99 99 w10 w0.heap.size P0_ (.slice (some ⟨g, 0, none⟩) l0.length c) (part (mkBs l0 a1) l0 kk) (kk : Int) oki [.int .i64 K, .slice A1 l0[kk].f1.length c1, .int .i64 l0[kk].f2] from (by rw [hw]; exact hs.1)); clear hs; replace HR := Aside0.mk (Kd.R_grown HR.out hg1 (fun k hk he => (HI.out k hk).2 (by injection he))); replace HB2 := Aside0.mk (show Below w0.heap.size w0 w10 from (by rw [hw]; exact below_set HB2.out hgw)); replace HK := Aside0.mk (Kept.of_grown hg1 HK.out (fun k he => .inl (by injection he with he; rw [← he]; exact HP.out))); clear hg1 hw; have hx1 : w10.cell? ⟨g, kk * 3 + 1, none⟩ = some (.slice A1 l0[kk].f1.length c1) := (Kd.H_at HH.out (by omega) hltz).1 1 _ rfl; have hf2 : w10.frozen? ⟨g, kk * 3 + 2, none⟩ = false := (Kd.H_at HH.out (by omega) hltz).2 2)
      go_wp2_with (go_at_call 108; clear T2; refine (laws_markArmS.calls k oki _ l0[kk].f1 _ _ _ w0 _ HB2.out HR.out HE.out).mono ?_; rintro e w11 ⟨rfl, hR2, hB3, hK2⟩; replace HK := Aside0.mk (HK.out.then_ hK2 (fun k hk => .inl (HI.out k hk).1)); replace HH := Aside0.mk (Kd.H_step HH.out (fun k _ hn hlt => hK2.2 k hlt hn)); replace HB2 := Aside0.mk hB3; replace HR := Aside0.mk (Kd.R_mono (Kd.R_tight rfl hR2) (fun k hk => HR.out.1 k hk.symm)); clear hR2 hK2 hB3; have hx2 : w11.cell? ⟨g, kk * 3 + 2, none⟩ = some (.int .i64 l0[kk].f2) := (Kd.H_at HH.out (by omega) hltz).1 2 _ rfl; have hf2 : w11.frozen? ⟨g, kk * 3 + 2, none⟩ = false := (Kd.H_at HH.out (by omega) hltz).2 2)
      have w2 : IntKind.i64.wrap (K + 1 + 3 * l0[kk].f1.length + 1) = K + 1 + 3 * l0[kk].f1.length + 1 := by rw [i64_w]; exact wrap_id (by omega) (by omega)
      go_roundg (l0.length - (kk + 1))
      case measure => omega
      case rel =>
        have hs := H_put HH.out (by omega) hltz 2 (.int .i64 (K + 1 + 3 * l0[kk].f1.length)) (by decide) rfl
        have hR2 := Kd.R_grown HR.out hs.2 (fun k hk he => (HI.out k hk).2 (by injection he))
        refine ⟨kk + 1, by omega, by omega, ?_, by go_num, ⟨?_⟩, ⟨below_set HB2.out hgw⟩, ⟨Kept.of_grown hs.2 HK.out (fun k he => .inl (by injection he with he; rw [← he]; exact HP.out))⟩⟩
        · rw [← hK1]
          congr 1
          omega
        · have hS := Kd.H_back (okp := oki) hs.1 (x' := mkB K l0[kk]) (k99_mkM _ _ _ (mkB K l0[kk]) (show Kd.R k117 117 _ _ oki (.slice A1 l0[kk].f1.length c1) ((List.range l0[kk].f1.length).map (mkArm (K + 1))) from hR2)) (fun _ hk => hk)
          rw [Int.toNat_natCast, part_set _ _ _ hln hlt (by rw [← hK]; exact hmk.out)] at hS
          exact hS
    · have hltz : ¬ (kk : Int) < (l0.length : Int) := by omega
      have hk : kk = l0.length := by omega
      subst hk
      go_wp2
      go_ret
      have hS := HS.out
      rw [part_all _ _ hln] at hS
      exact ⟨rfl, hS, HB2.out, HK.out⟩
end Go.Proofs.Ytimdoghlnegpgaa.P
/- What the law's marks of code do: those of its blocks. -/
namespace Go.Proofs.Ytimdoghlnegpgaa.P
open Go.RowKit Go.Proofs.YtimdoghlnegpgaaW.PrintWords Go.Proofs.YtimdoghlnegpgaaW.PrintLast Go.Proofs.YtimdoghlnegpgaaW.PrintMore Go.Proofs.YtimdoghlnegpgaaEv
set_option linter.unusedVariables false
set_option linter.unusedSimpArgs false
set_option maxHeartbeats 8000000 in
set_option maxRecDepth 100000 in
theorem markCode_walk (P0_ : Nat → Prop) (A : Option Addr) (n c : Nat) (l0 : List S99) (a1 : Int) (h0 : 0 ≤ a1) (h1 : a1 + cntB l0 ≤ 9000000000000000000) (hlen : (l0.length : Int) ≤ 9000000000000000000) (w0 w : World) (hB : Below w0.heap.size w0 w) (ho0 : Kd.S k99 99 w w0.heap.size P0_ (.slice A n c) l0) :
    Calls Try.prog 58 #[.agg #[.slice A n c], .int .i64 a1] w fun e w' => e = .returned (.int .i64 (a1 + cntB l0)) ∧ Kd.S k99 99 w' w0.heap.size P0_ (.slice A n c) (mkBs l0 a1) ∧ Below w0.heap.size w0 w' ∧ Kept w w' P0_ := by
  have HO := Aside0.mk ho0
  have HB := Aside0.mk hB
  clear ho0 hB
  go_enter Try.func58, Try.ntmps58
  go_wp2_with fail
  refine (markCBlockS_walk P0_ _ l0 a1 h0 h1 hlen w0 _ ?hb ?ho).mono ?_
  case hb => repeat (first | exact HB.out | apply below_alloc | apply pw_below_drewN | apply below_drew1)
  case ho => (with_reducible repeat (first | apply Kd.S_alloc | apply Kd.S_drewN | apply Kd.S_drew)); exact HO.out
  rintro e w1 ⟨rfl, hS, hB2, hK⟩
  have HS := Aside0.mk hS
  have HB2 := Aside0.mk hB2
  have HK : Aside0 (Kept w w1 P0_) := ⟨Kept.then_ (by repeat (first | exact Kept.refl _ _ | apply Kept.alloc | apply Kept.drewN | apply Kept.drew)) hK (fun k hk => .inl hk)⟩
  clear hS hB2 hK
  go_wp2_with fail
  go_ret
  exact ⟨rfl, HS.out, HB2.out, HK.out⟩
end Go.Proofs.Ytimdoghlnegpgaa.P
/- The law FnExactCompile, walked as a whole along the way that it goes, for arguments as its row says. -/
set_option linter.unusedVariables false
set_option linter.unusedSimpArgs false
namespace Go.Proofs.Ytimdoghlnegpgaa.P
open Go.RowKit Go.Proofs.YtimdoghlnegpgaaW.PrintWords Go.Proofs.YtimdoghlnegpgaaW.PrintLast Go.Proofs.YtimdoghlnegpgaaW.PrintMore Go.Proofs.YtimdoghlnegpgaaEv
def laws_FnExactCompile.dom_ (l0_0 : List S124) : Prop := (l0_0.length ≤ maxLen ∧ ∀ y ∈ l0_0, g124 y)
open Classical in
noncomputable def laws_FnExactCompile.f (k : Nat) (l0_0 : List S124) : Option Bool := if laws_FnExactCompile.dom_ l0_0 then some true else none
set_option maxHeartbeats 8000000 in
set_option maxRecDepth 100000 in
theorem laws_FnExactCompile.calls (k : Nat) (A0_0 : Option Addr) (c0_0 : Nat) (l0_0 : List S124) (r : Bool) (w : World) (hr0_0 : Kd.C k124 w A0_0 l0_0.length l0_0) (hc0_0 : l0_0.length ≤ c0_0) (h : laws_FnExactCompile.f k l0_0 = some r) :
  Calls Try.prog 14 #[.agg #[.slice A0_0 l0_0.length c0_0]] w fun e w' => e = .returned (.bool r) ∧ Below w.heap.size w w' := by
  have hok : laws_FnExactCompile.dom_ l0_0 := by
    unfold laws_FnExactCompile.f at h
    split at h
    · assumption
    · simp at h
  have hr : r = true := by
    unfold laws_FnExactCompile.f at h
    rw [if_pos hok] at h
    simpa using h.symm
  subst hr
  clear h
  have HR_l0_0 := Aside0.mk hr0_0
  have HC_l0_0 := Aside0.mk hc0_0
  clear hr0_0 hc0_0
  have HB := Aside0.mk (Below.refl w.heap.size w)
  by_cases hsmall : l0_0.length + ws wCBlock l0_0 ≤ 1048576
  · obtain ⟨hm0, hg⟩ := hok
    have hm := Nat.le_trans hm0 maxLen_le
    have hl' : (l0_0.map cCBlock).length ≤ 1048576 := by simp; omega
    have hh : ∀ x ∈ l0_0.map cCBlock, h99 x := fun y hy => by obtain ⟨z, hz, rfl⟩ := List.mem_map.1 hy; exact hCBlock_of_g (hg z hz)
    have hcn : ∀ l : List S124, cntB (l.map cCBlock) ≤ 3 * (l.length + ws wCBlock l) := by
      intro l
      induction l with
      | nil => simp [cntB]
      | cons x xs ih => simp only [List.map_cons, cntB, mcB, cCBlock, List.length_cons, List.length_map, ws, wCBlock, List.map, List.sum_cons] at ih ⊢; omega
    have hcn := hcn l0_0
    have hf := compB_few (l0_0.map cCBlock)
    obtain ⟨_, g0⟩ := ev_get (laws_szCode_ev l0_0 1048576 (by omega) (by omega) hm hg)
    rw [if_neg (by omega)] at g0
    obtain ⟨_, g1⟩ := ev_get (laws_toCode_ev l0_0 hsmall)
    obtain ⟨_, g2⟩ := ev_get (spec_Compile_ev (l0_0.map cCBlock) hl')
    obtain ⟨_, g3⟩ := ev_get (impl_Compile_ev (l0_0.map cCBlock))
    obtain ⟨_, g4⟩ := ev_get (laws_eqMOpS_ev (compB (l0_0.map cCBlock)).1 (by omega))
    obtain ⟨_, g5⟩ := ev_get (laws_eqCode_ev (l0_0.map cCBlock) (by omega) hh)
    obtain ⟨_, g6⟩ := ev_get (laws_markMOpS_ev (compB (l0_0.map cCBlock)).1 1 (by omega) (by omega))
    obtain ⟨_, g7⟩ := ev_get (laws_heldMOpS_ev (compB (l0_0.map cCBlock)).1.length 1 (by omega) (by omega))
    have n1 : decide ((1048576 : Int) - ((l0_0.length + ws wCBlock l0_0 : Nat) : Int) < 0) = false := decide_eq_false (by omega)
    have n2 : decide ((1 : Int) + (cntB (l0_0.map cCBlock) : Int) < 0) = false := decide_eq_false (by omega)
    have F1 := Aside0.mk (by omega : (1 : Int) + cntB (l0_0.map cCBlock) ≤ 9000000000000000000)
    have F2 := Aside0.mk (by omega : ((l0_0.map cCBlock).length : Int) ≤ 9000000000000000000)
    obtain ⟨W, b, hW⟩ : ∃ W b, compB (l0_0.map cCBlock) = (W, b) := ⟨_, _, rfl⟩
    rw [hW] at g2 g3
    simp only [hW] at g4 g6 g7 hf
    clear hW
    have n3 : decide ((1 : Int) + 3 * (W.length : Int) < 0) = false := decide_eq_false (by omega)
    have n4 : (b != b) = false := bne_self_eq_false b
    have E0 := Aside0.mk g0
    have E1 := Aside0.mk g1
    have E2 := Aside0.mk g2
    have E3 := Aside0.mk g3
    have E4 := Aside0.mk g4
    have E5 := Aside0.mk g5
    have E6 := Aside0.mk g6
    have E7 := Aside0.mk g7
    clear g0 g1 g2 g3 g4 g5 g6 g7 hcn hf hh hl' hm hm0 hg
    generalize l0_0.map cCBlock = X at *
    have T1 : Aside0 True := ⟨trivial⟩
    have T2 : Aside0 True := ⟨trivial⟩
    have T3 : Aside0 True := ⟨trivial⟩
    have T4 : Aside0 True := ⟨trivial⟩
    have T5 : Aside0 True := ⟨trivial⟩
    have T6 : Aside0 True := ⟨trivial⟩
    have T7 : Aside0 True := ⟨trivial⟩
    have T8 : Aside0 True := ⟨trivial⟩
    have T9 : Aside0 True := ⟨trivial⟩
    have T10 : Aside0 True := ⟨trivial⟩
    have T11 : Aside0 True := ⟨trivial⟩
    have T12 : Aside0 True := ⟨trivial⟩
    have T13 : Aside0 True := ⟨trivial⟩
    have T14 : Aside0 True := ⟨trivial⟩
    have T15 : Aside0 True := ⟨trivial⟩
    go_enter Try.func14, Try.ntmps14
    go_wp2_with ((with_reducible refine gate_dst (N := 1) rfl ?_); clear T1; refine box_event ?hg (N := 1) ?hd (cs := #[.slice A0_0 l0_0.length c0_0]) (t := 53) ?hr ?_; (case hd => rfl); (case hg => rfl); (case hr => first | (go_simp; done) | (go_simp; rfl)); intro gb_p0 hg w1 hbox hb; have BK_p0 := Aside0.mk hbox; have GB_p0 := Aside0.mk hg; have LB_p0 := Aside0.mk (blk_lt hbox); have Y1 := Aside0.mk hb.size; replace HB := Aside0.mk (below_step HB.out hb); have hcz_p0_0 : w1.cell? ⟨gb_p0, 0, none⟩ = some (.slice A0_0 l0_0.length c0_0) := (blk_cell BK_p0.out 0).trans rfl; clear hb hg hbox)
    go_wp2_with (go_at_call 41; clear T2; refine (laws_szCode.calls _ _ _ _ _ _ _ (Kd.C_below HR_l0_0.out HB.out) (HC_l0_0.out) E0.out).mono ?_; rintro e w2 ⟨rfl, hb⟩; replace BK_p0 := Aside0.mk (blk_below (g := gb_p0) (o := .cells #[.slice A0_0 l0_0.length c0_0] 53 (0, 0)) BK_p0.out hb); replace hcz_p0_0 : w2.cell? ⟨gb_p0, 0, none⟩ = some (.slice A0_0 l0_0.length c0_0) := (blk_cell BK_p0.out 0).trans rfl; have Y2 := Aside0.mk hb.size; replace HB := Aside0.mk (below_step HB.out hb); clear hb)
    go_wp2_with (go_at_call 43; clear T3; refine (laws_toCode.calls _ _ _ _ _ _ (Kd.C_below HR_l0_0.out HB.out) (HC_l0_0.out) E1.out).mono ?_; rintro e w3 ⟨v_a, rfl, hO, hb⟩; replace BK_p0 := Aside0.mk (blk_below (g := gb_p0) (o := .cells #[.slice A0_0 l0_0.length c0_0] 53 (0, 0)) BK_p0.out hb); replace hcz_p0_0 : w3.cell? ⟨gb_p0, 0, none⟩ = some (.slice A0_0 l0_0.length c0_0) := (blk_cell BK_p0.out 0).trans rfl; obtain ⟨lo_a, hi_a, hz, hO⟩ := S_born hO HB.out; have Z_a := Aside0.mk hz; clear hz; obtain ⟨A_a, c_a, rfl⟩ := Kd.S_slice hO; have O_a := Aside0.mk hO; clear hO; have Y3 := Aside0.mk hb.size; replace HB := Aside0.mk (below_step HB.out hb); clear hb)
    go_wp2_with (go_at_call 56; clear T4; refine (spec_Compile.calls _ _ _ _ _ _ _ (C_of_S O_a.out) (L_of_S O_a.out) E2.out).mono ?_; rintro e w4 ⟨v_w0, rfl, hO, hb⟩; replace O_a := Aside0.mk (Kd.S_below O_a.out hb); replace BK_p0 := Aside0.mk (blk_below (g := gb_p0) (o := .cells #[.slice A0_0 l0_0.length c0_0] 53 (0, 0)) BK_p0.out hb); replace hcz_p0_0 : w4.cell? ⟨gb_p0, 0, none⟩ = some (.slice A0_0 l0_0.length c0_0) := (blk_cell BK_p0.out 0).trans rfl; obtain ⟨lo_w0, hi_w0, hz, hO⟩ := R_born hO HB.out; have Z_w0 := Aside0.mk hz; clear hz; obtain ⟨A_w0, c_w0, rfl⟩ := Kd.R_slice hO; have O_w0 := Aside0.mk hO; clear hO; have Y4 := Aside0.mk hb.size; replace HB := Aside0.mk (below_step HB.out hb); clear hb)
    go_wp2_with (go_at_call 43; clear T5; refine (laws_toCode.calls _ _ _ _ _ _ (Kd.C_below HR_l0_0.out HB.out) (HC_l0_0.out) E1.out).mono ?_; rintro e w5 ⟨v_x, rfl, hO, hb⟩; replace O_a := Aside0.mk (Kd.S_below O_a.out hb); replace O_w0 := Aside0.mk (Kd.R_below O_w0.out hb); replace BK_p0 := Aside0.mk (blk_below (g := gb_p0) (o := .cells #[.slice A0_0 l0_0.length c0_0] 53 (0, 0)) BK_p0.out hb); replace hcz_p0_0 : w5.cell? ⟨gb_p0, 0, none⟩ = some (.slice A0_0 l0_0.length c0_0) := (blk_cell BK_p0.out 0).trans rfl; obtain ⟨lo_x, hi_x, hz, hO⟩ := S_born hO HB.out; have Z_x := Aside0.mk hz; clear hz; obtain ⟨A_x, c_x, rfl⟩ := Kd.S_slice hO; have O_x := Aside0.mk hO; clear hO; have Y5 := Aside0.mk hb.size; replace HB := Aside0.mk (below_step HB.out hb); clear hb)
    go_wp2_with (go_at_call 57; clear T6; obtain ⟨w6, hW⟩ : ∃ w_ : World, w_ = w5.alloc (.cells #[.slice A_x X.length c_x] 58) := ⟨_, rfl⟩; obtain ⟨gb_x, hg⟩ : ∃ g_ : Nat, g_ = w5.heap.size := ⟨_, rfl⟩; rw [← hW, ← hg]; have hb : Below w5.heap.size w5 w6 := (by rw [hW]; exact below_alloc (Below.refl _ _) _); have hbox : w6.heap[gb_x]? = some (.cells #[.slice A_x X.length c_x] 58 (0, 0)) := (by rw [hW, hg]; exact blk_new _ _); replace O_a := Aside0.mk (Kd.S_below O_a.out hb); replace O_w0 := Aside0.mk (Kd.R_below O_w0.out hb); replace O_x := Aside0.mk (Kd.S_below O_x.out hb); replace BK_p0 := Aside0.mk (blk_below (g := gb_p0) (o := .cells #[.slice A0_0 l0_0.length c0_0] 53 (0, 0)) BK_p0.out hb); replace hcz_p0_0 : w6.cell? ⟨gb_p0, 0, none⟩ = some (.slice A0_0 l0_0.length c0_0) := (blk_cell BK_p0.out 0).trans rfl; have BK_x := Aside0.mk hbox; have GB_x := Aside0.mk hg; have LB_x := Aside0.mk (blk_lt hbox); have Y6 := Aside0.mk hb.size; replace HB := Aside0.mk (below_step HB.out hb); have hcz_x_0 : w6.cell? ⟨gb_x, 0, none⟩ = some (.slice A_x X.length c_x) := (blk_cell BK_x.out 0).trans rfl; clear hb hg hbox hW; refine (impl_Compile.calls _ _ _ _ _ _ _ (C_of_S O_x.out) (L_of_S O_x.out) E3.out).mono ?_; rintro e w7 ⟨v_g, rfl, hO, hb⟩; replace O_a := Aside0.mk (Kd.S_below O_a.out hb); replace O_w0 := Aside0.mk (Kd.R_below O_w0.out hb); replace O_x := Aside0.mk (Kd.S_below O_x.out hb); replace BK_p0 := Aside0.mk (blk_below (g := gb_p0) (o := .cells #[.slice A0_0 l0_0.length c0_0] 53 (0, 0)) BK_p0.out hb); replace hcz_p0_0 : w7.cell? ⟨gb_p0, 0, none⟩ = some (.slice A0_0 l0_0.length c0_0) := (blk_cell BK_p0.out 0).trans rfl; replace BK_x := Aside0.mk (blk_below (g := gb_x) (o := .cells #[.slice A_x X.length c_x] 58 (0, 0)) BK_x.out hb); replace hcz_x_0 : w7.cell? ⟨gb_x, 0, none⟩ = some (.slice A_x X.length c_x) := (blk_cell BK_x.out 0).trans rfl; obtain ⟨lo_g, hi_g, hz, hO⟩ := R_born hO HB.out; have Z_g := Aside0.mk hz; clear hz; obtain ⟨A_g, c_g, rfl⟩ := Kd.R_slice hO; have O_g := Aside0.mk hO; clear hO; have Y7 := Aside0.mk hb.size; replace HB := Aside0.mk (below_step HB.out hb); clear hb)
    go_wp2_with (go_at_call 19; clear T7; refine (laws_eqMOpS.calls _ _ _ _ _ _ _ _ _ (C_of_R O_g.out) (L_of_R O_g.out) (C_of_R O_w0.out) (L_of_R O_w0.out) E4.out).mono ?_; rintro e w8 ⟨rfl, hb⟩; replace O_a := Aside0.mk (Kd.S_below O_a.out hb); replace O_w0 := Aside0.mk (Kd.R_below O_w0.out hb); replace O_x := Aside0.mk (Kd.S_below O_x.out hb); replace O_g := Aside0.mk (Kd.R_below O_g.out hb); replace BK_p0 := Aside0.mk (blk_below (g := gb_p0) (o := .cells #[.slice A0_0 l0_0.length c0_0] 53 (0, 0)) BK_p0.out hb); replace hcz_p0_0 : w8.cell? ⟨gb_p0, 0, none⟩ = some (.slice A0_0 l0_0.length c0_0) := (blk_cell BK_p0.out 0).trans rfl; replace BK_x := Aside0.mk (blk_below (g := gb_x) (o := .cells #[.slice A_x X.length c_x] 58 (0, 0)) BK_x.out hb); replace hcz_x_0 : w8.cell? ⟨gb_x, 0, none⟩ = some (.slice A_x X.length c_x) := (blk_cell BK_x.out 0).trans rfl; have Y8 := Aside0.mk hb.size; replace HB := Aside0.mk (below_step HB.out hb); clear hb)
    have hb : Below w8.heap.size w8 w8.drew := below_drew (Below.refl _ _)
    replace O_a := Aside0.mk (Kd.S_below O_a.out hb)
    replace O_w0 := Aside0.mk (Kd.R_below O_w0.out hb)
    replace O_x := Aside0.mk (Kd.S_below O_x.out hb)
    replace O_g := Aside0.mk (Kd.R_below O_g.out hb)
    replace BK_p0 := Aside0.mk (blk_drew BK_p0.out)
    replace hcz_p0_0 : w8.drew.cell? ⟨gb_p0, 0, none⟩ = some (.slice A0_0 l0_0.length c0_0) := (blk_cell BK_p0.out 0).trans rfl
    replace BK_x := Aside0.mk (blk_drew BK_x.out)
    replace hcz_x_0 : w8.drew.cell? ⟨gb_x, 0, none⟩ = some (.slice A_x X.length c_x) := (blk_cell BK_x.out 0).trans rfl
    have Y9 := Aside0.mk hb.size
    replace HB := Aside0.mk (below_step HB.out hb)
    clear hb
    refine start_ (n := 5) (S := fun w' => w'.cell? ⟨gb_x, 0, none⟩ = some (.slice A_x X.length c_x) ∧ w'.cell? ⟨gb_p0, 0, none⟩ = some (.slice A0_0 l0_0.length c0_0)) (ds := []) #[false, false, false, false, false] (by kernel_rfl) rfl rfl ⟨hcz_x_0, hcz_p0_0⟩ (fun hHeld => ?_)
    generalize w8.drew = w9 at O_a O_w0 O_x O_g BK_p0 BK_x hcz_p0_0 hcz_x_0 Y9 HB hHeld ⊢
    refine take_ (i := 0) (N := some 41) (v := ?_) (a' := ?_) #[true, false, false, false, false] rfl rfl (by kernel_rfl) (fun _ _ _ h => h) (Or.inl ⟨by rfl, ?_⟩) hHeld ?_ ?_
    rotate_left
    · rintro w' ⟨s0, s1⟩
      go_simp
      with_reducible rfl
    rotate_left
    · simp only [Act.put, List.setIfInBounds_toArray, List.set_cons_zero, List.set_cons_succ, i64_w, i32_w]
      rfl
    refine take_ (i := 1) (N := some 42) (v := ?_) (a' := ?_) #[true, true, false, false, false] rfl rfl (by kernel_rfl) (fun _ _ _ h => h) (Or.inl ⟨by rfl, ?_⟩) hHeld ?_ ?_
    rotate_left
    · rintro w' ⟨s0, s1⟩
      go_simp
      with_reducible rfl
    rotate_left
    · simp only [Act.put, List.setIfInBounds_toArray, List.set_cons_zero, List.set_cons_succ, i64_w, i32_w]
      rfl
    refine one_ (i := 2) (N := some 43) #[true, true, true, false, false] rfl rfl (by kernel_rfl) (by decide) (fun K hK => ?_)
    refine goes_ Try.func43 (by kernel_rfl) rfl #[.agg #[.slice A0_0 l0_0.length c0_0]] (by rfl) rfl rfl (by (try simp only [List.map_toArray, List.map_cons, List.map_nil]); first | done | rfl | (simp only [List.length_drop, List.length_take]; rfl)) ?_
    with_reducible refine (laws_toCode.calls _ _ _ _ _ _ (Kd.C_below HR_l0_0.out HB.out) (HC_l0_0.out) E1.out).mono ?_
    rintro e w10 ⟨v_b, rfl, hO, hb⟩
    refine ⟨_, rfl, ?_⟩
    replace O_a := Aside0.mk (Kd.S_below O_a.out hb)
    replace O_w0 := Aside0.mk (Kd.R_below O_w0.out hb)
    replace O_x := Aside0.mk (Kd.S_below O_x.out hb)
    replace O_g := Aside0.mk (Kd.R_below O_g.out hb)
    replace BK_p0 := Aside0.mk (blk_below (g := gb_p0) (o := .cells #[.slice A0_0 l0_0.length c0_0] 53 (0, 0)) BK_p0.out hb)
    replace hcz_p0_0 : w10.cell? ⟨gb_p0, 0, none⟩ = some (.slice A0_0 l0_0.length c0_0) := (blk_cell BK_p0.out 0).trans rfl
    replace BK_x := Aside0.mk (blk_below (g := gb_x) (o := .cells #[.slice A_x X.length c_x] 58 (0, 0)) BK_x.out hb)
    replace hcz_x_0 : w10.cell? ⟨gb_x, 0, none⟩ = some (.slice A_x X.length c_x) := (blk_cell BK_x.out 0).trans rfl
    obtain ⟨lo_b, hi_b, hz, hO⟩ := S_born hO HB.out
    have Z_b := Aside0.mk hz
    clear hz
    obtain ⟨A_b, c_b, rfl⟩ := Kd.S_slice hO
    have O_b := Aside0.mk hO
    clear hO
    have Y10 := Aside0.mk hb.size
    replace HB := Aside0.mk (below_step HB.out hb)
    clear hb
    refine hK.out _ _ ⟨hcz_x_0, hcz_p0_0⟩ (fun hHeld => ?_)
    clear hK K
    refine norm_ (a' := ?_) ?_ ?_
    rotate_left
    · show Act.put _ (some 43) _ = _
      simp only [Act.put, List.setIfInBounds_toArray, List.set_cons_zero, List.set_cons_succ, i64_w, i32_w]
      rfl
    refine one_ (i := 3) (N := some 44) #[true, true, true, true, false] rfl rfl (by kernel_rfl) (by decide) (fun K hK => ?_)
    refine goes_ Try.func45 (by kernel_rfl) rfl #[.agg #[.slice A_x X.length c_x], .agg #[.slice A_b X.length c_b]] (by rfl) rfl rfl (by (try simp only [List.map_toArray, List.map_cons, List.map_nil]); first | done | rfl | (simp only [List.length_drop, List.length_take]; rfl)) ?_
    with_reducible refine (laws_eqCode.calls _ _ _ _ _ _ _ _ _ (C_of_S O_x.out) (L_of_S O_x.out) (C_of_S O_b.out) (L_of_S O_b.out) E5.out).mono ?_
    rintro e w11 ⟨rfl, hb⟩
    refine ⟨_, rfl, ?_⟩
    replace O_a := Aside0.mk (Kd.S_below O_a.out hb)
    replace O_w0 := Aside0.mk (Kd.R_below O_w0.out hb)
    replace O_x := Aside0.mk (Kd.S_below O_x.out hb)
    replace O_g := Aside0.mk (Kd.R_below O_g.out hb)
    replace O_b := Aside0.mk (Kd.S_below O_b.out hb)
    replace BK_p0 := Aside0.mk (blk_below (g := gb_p0) (o := .cells #[.slice A0_0 l0_0.length c0_0] 53 (0, 0)) BK_p0.out hb)
    replace hcz_p0_0 : w11.cell? ⟨gb_p0, 0, none⟩ = some (.slice A0_0 l0_0.length c0_0) := (blk_cell BK_p0.out 0).trans rfl
    replace BK_x := Aside0.mk (blk_below (g := gb_x) (o := .cells #[.slice A_x X.length c_x] 58 (0, 0)) BK_x.out hb)
    replace hcz_x_0 : w11.cell? ⟨gb_x, 0, none⟩ = some (.slice A_x X.length c_x) := (blk_cell BK_x.out 0).trans rfl
    have Y11 := Aside0.mk hb.size
    replace HB := Aside0.mk (below_step HB.out hb)
    clear hb
    refine hK.out _ _ ⟨hcz_x_0, hcz_p0_0⟩ (fun hHeld => ?_)
    clear hK K
    refine norm_ (a' := ?_) ?_ ?_
    rotate_left
    · show Act.put _ (some 44) _ = _
      simp only [Act.put, List.setIfInBounds_toArray, List.set_cons_zero, List.set_cons_succ, i64_w, i32_w]
      rfl
    refine pure_ (i := 4) (N := some 45) (v := ?_) (a' := ?_) #[true, true, true, true, true] rfl rfl (by kernel_rfl) (fun _ _ _ h => h) (Or.inl ⟨by rfl, ?_⟩) ?_ ?_
    rotate_left
    · intro w'
      go_simp
      with_reducible rfl
    rotate_left
    · simp only [Act.put, List.setIfInBounds_toArray, List.set_cons_zero, List.set_cons_succ, i64_w, i32_w]
      rfl
    refine done_ (by kernel_rfl) ?_
    go_wp2_with (go_at_call 58; clear T8; refine (markCode_walk _ _ _ _ X 1 (by omega) F1.out F2.out w _ HB.out O_x.out).mono ?_; rintro e w12 ⟨rfl, hO, hB2, hK⟩; replace O_a := Aside0.mk (S_beside O_a.out (by have z0 := GB_p0.out; have z1 := LB_p0.out; have z2 := Y1.out; have z3 := Y2.out; have z4 := Z_a.out; have z5 := Y3.out; have z6 := Z_w0.out; have z7 := Y4.out; have z8 := Z_x.out; have z9 := Y5.out; have z10 := GB_x.out; have z11 := LB_x.out; have z12 := Y6.out; have z13 := Z_g.out; have z14 := Y7.out; have z15 := Y8.out; have z16 := Y9.out; have z17 := Z_b.out; have z18 := Y10.out; have z19 := Y11.out; omega) hK (by have z0 := GB_p0.out; have z1 := LB_p0.out; have z2 := Y1.out; have z3 := Y2.out; have z4 := Z_a.out; have z5 := Y3.out; have z6 := Z_w0.out; have z7 := Y4.out; have z8 := Z_x.out; have z9 := Y5.out; have z10 := GB_x.out; have z11 := LB_x.out; have z12 := Y6.out; have z13 := Z_g.out; have z14 := Y7.out; have z15 := Y8.out; have z16 := Y9.out; have z17 := Z_b.out; have z18 := Y10.out; have z19 := Y11.out; omega)); replace O_w0 := Aside0.mk (R_beside O_w0.out (by have z0 := GB_p0.out; have z1 := LB_p0.out; have z2 := Y1.out; have z3 := Y2.out; have z4 := Z_a.out; have z5 := Y3.out; have z6 := Z_w0.out; have z7 := Y4.out; have z8 := Z_x.out; have z9 := Y5.out; have z10 := GB_x.out; have z11 := LB_x.out; have z12 := Y6.out; have z13 := Z_g.out; have z14 := Y7.out; have z15 := Y8.out; have z16 := Y9.out; have z17 := Z_b.out; have z18 := Y10.out; have z19 := Y11.out; omega) hK (by have z0 := GB_p0.out; have z1 := LB_p0.out; have z2 := Y1.out; have z3 := Y2.out; have z4 := Z_a.out; have z5 := Y3.out; have z6 := Z_w0.out; have z7 := Y4.out; have z8 := Z_x.out; have z9 := Y5.out; have z10 := GB_x.out; have z11 := LB_x.out; have z12 := Y6.out; have z13 := Z_g.out; have z14 := Y7.out; have z15 := Y8.out; have z16 := Y9.out; have z17 := Z_b.out; have z18 := Y10.out; have z19 := Y11.out; omega)); replace O_g := Aside0.mk (R_beside O_g.out (by have z0 := GB_p0.out; have z1 := LB_p0.out; have z2 := Y1.out; have z3 := Y2.out; have z4 := Z_a.out; have z5 := Y3.out; have z6 := Z_w0.out; have z7 := Y4.out; have z8 := Z_x.out; have z9 := Y5.out; have z10 := GB_x.out; have z11 := LB_x.out; have z12 := Y6.out; have z13 := Z_g.out; have z14 := Y7.out; have z15 := Y8.out; have z16 := Y9.out; have z17 := Z_b.out; have z18 := Y10.out; have z19 := Y11.out; omega) hK (by have z0 := GB_p0.out; have z1 := LB_p0.out; have z2 := Y1.out; have z3 := Y2.out; have z4 := Z_a.out; have z5 := Y3.out; have z6 := Z_w0.out; have z7 := Y4.out; have z8 := Z_x.out; have z9 := Y5.out; have z10 := GB_x.out; have z11 := LB_x.out; have z12 := Y6.out; have z13 := Z_g.out; have z14 := Y7.out; have z15 := Y8.out; have z16 := Y9.out; have z17 := Z_b.out; have z18 := Y10.out; have z19 := Y11.out; omega)); replace O_b := Aside0.mk (S_beside O_b.out (by have z0 := GB_p0.out; have z1 := LB_p0.out; have z2 := Y1.out; have z3 := Y2.out; have z4 := Z_a.out; have z5 := Y3.out; have z6 := Z_w0.out; have z7 := Y4.out; have z8 := Z_x.out; have z9 := Y5.out; have z10 := GB_x.out; have z11 := LB_x.out; have z12 := Y6.out; have z13 := Z_g.out; have z14 := Y7.out; have z15 := Y8.out; have z16 := Y9.out; have z17 := Z_b.out; have z18 := Y10.out; have z19 := Y11.out; omega) hK (by have z0 := GB_p0.out; have z1 := LB_p0.out; have z2 := Y1.out; have z3 := Y2.out; have z4 := Z_a.out; have z5 := Y3.out; have z6 := Z_w0.out; have z7 := Y4.out; have z8 := Z_x.out; have z9 := Y5.out; have z10 := GB_x.out; have z11 := LB_x.out; have z12 := Y6.out; have z13 := Z_g.out; have z14 := Y7.out; have z15 := Y8.out; have z16 := Y9.out; have z17 := Z_b.out; have z18 := Y10.out; have z19 := Y11.out; omega)); replace BK_p0 := Aside0.mk ((hK.2 gb_p0 (by have z0 := GB_p0.out; have z1 := LB_p0.out; have z2 := Y1.out; have z3 := Y2.out; have z4 := Z_a.out; have z5 := Y3.out; have z6 := Z_w0.out; have z7 := Y4.out; have z8 := Z_x.out; have z9 := Y5.out; have z10 := GB_x.out; have z11 := LB_x.out; have z12 := Y6.out; have z13 := Z_g.out; have z14 := Y7.out; have z15 := Y8.out; have z16 := Y9.out; have z17 := Z_b.out; have z18 := Y10.out; have z19 := Y11.out; omega) (fun h2 => by have y0 := h2.1; have y1 := h2.2; have z0 := GB_p0.out; have z1 := LB_p0.out; have z2 := Y1.out; have z3 := Y2.out; have z4 := Z_a.out; have z5 := Y3.out; have z6 := Z_w0.out; have z7 := Y4.out; have z8 := Z_x.out; have z9 := Y5.out; have z10 := GB_x.out; have z11 := LB_x.out; have z12 := Y6.out; have z13 := Z_g.out; have z14 := Y7.out; have z15 := Y8.out; have z16 := Y9.out; have z17 := Z_b.out; have z18 := Y10.out; have z19 := Y11.out; omega)).trans BK_p0.out); replace hcz_p0_0 : w12.cell? ⟨gb_p0, 0, none⟩ = some (.slice A0_0 l0_0.length c0_0) := (blk_cell BK_p0.out 0).trans rfl; replace BK_x := Aside0.mk ((hK.2 gb_x (by have z0 := GB_p0.out; have z1 := LB_p0.out; have z2 := Y1.out; have z3 := Y2.out; have z4 := Z_a.out; have z5 := Y3.out; have z6 := Z_w0.out; have z7 := Y4.out; have z8 := Z_x.out; have z9 := Y5.out; have z10 := GB_x.out; have z11 := LB_x.out; have z12 := Y6.out; have z13 := Z_g.out; have z14 := Y7.out; have z15 := Y8.out; have z16 := Y9.out; have z17 := Z_b.out; have z18 := Y10.out; have z19 := Y11.out; omega) (fun h2 => by have y0 := h2.1; have y1 := h2.2; have z0 := GB_p0.out; have z1 := LB_p0.out; have z2 := Y1.out; have z3 := Y2.out; have z4 := Z_a.out; have z5 := Y3.out; have z6 := Z_w0.out; have z7 := Y4.out; have z8 := Z_x.out; have z9 := Y5.out; have z10 := GB_x.out; have z11 := LB_x.out; have z12 := Y6.out; have z13 := Z_g.out; have z14 := Y7.out; have z15 := Y8.out; have z16 := Y9.out; have z17 := Z_b.out; have z18 := Y10.out; have z19 := Y11.out; omega)).trans BK_x.out); replace hcz_x_0 : w12.cell? ⟨gb_x, 0, none⟩ = some (.slice A_x X.length c_x) := (blk_cell BK_x.out 0).trans rfl; replace O_x := Aside0.mk hO; have Y12 := Aside0.mk hK.1; replace HB := Aside0.mk hB2; clear hO hB2 hK)
    go_wp2_with (go_at_call 19; clear T9; refine (laws_eqMOpS.calls _ _ _ _ _ _ _ _ _ (C_of_R O_g.out) (L_of_R O_g.out) (C_of_R O_w0.out) (L_of_R O_w0.out) E4.out).mono ?_; rintro e w13 ⟨rfl, hb⟩; replace O_a := Aside0.mk (Kd.S_below O_a.out hb); replace O_w0 := Aside0.mk (Kd.R_below O_w0.out hb); replace O_x := Aside0.mk (Kd.S_below O_x.out hb); replace O_g := Aside0.mk (Kd.R_below O_g.out hb); replace O_b := Aside0.mk (Kd.S_below O_b.out hb); replace BK_p0 := Aside0.mk (blk_below (g := gb_p0) (o := .cells #[.slice A0_0 l0_0.length c0_0] 53 (0, 0)) BK_p0.out hb); replace hcz_p0_0 : w13.cell? ⟨gb_p0, 0, none⟩ = some (.slice A0_0 l0_0.length c0_0) := (blk_cell BK_p0.out 0).trans rfl; replace BK_x := Aside0.mk (blk_below (g := gb_x) (o := .cells #[.slice A_x X.length c_x] 58 (0, 0)) BK_x.out hb); replace hcz_x_0 : w13.cell? ⟨gb_x, 0, none⟩ = some (.slice A_x X.length c_x) := (blk_cell BK_x.out 0).trans rfl; have Y13 := Aside0.mk hb.size; replace HB := Aside0.mk (below_step HB.out hb); clear hb)
    go_wp2_with (go_at_call 59; clear T10; refine (laws_markMOpS.calls _ _ _ _ _ _ _ w _ HB.out O_g.out E6.out).mono ?_; rintro e w14 ⟨rfl, hO, hB2, hK⟩; replace O_a := Aside0.mk (S_beside O_a.out (by have z0 := GB_p0.out; have z1 := LB_p0.out; have z2 := Y1.out; have z3 := Y2.out; have z4 := Z_a.out; have z5 := Y3.out; have z6 := Z_w0.out; have z7 := Y4.out; have z8 := Z_x.out; have z9 := Y5.out; have z10 := GB_x.out; have z11 := LB_x.out; have z12 := Y6.out; have z13 := Z_g.out; have z14 := Y7.out; have z15 := Y8.out; have z16 := Y9.out; have z17 := Z_b.out; have z18 := Y10.out; have z19 := Y11.out; have z20 := Y12.out; have z21 := Y13.out; omega) hK (by have z0 := GB_p0.out; have z1 := LB_p0.out; have z2 := Y1.out; have z3 := Y2.out; have z4 := Z_a.out; have z5 := Y3.out; have z6 := Z_w0.out; have z7 := Y4.out; have z8 := Z_x.out; have z9 := Y5.out; have z10 := GB_x.out; have z11 := LB_x.out; have z12 := Y6.out; have z13 := Z_g.out; have z14 := Y7.out; have z15 := Y8.out; have z16 := Y9.out; have z17 := Z_b.out; have z18 := Y10.out; have z19 := Y11.out; have z20 := Y12.out; have z21 := Y13.out; omega)); replace O_w0 := Aside0.mk (R_beside O_w0.out (by have z0 := GB_p0.out; have z1 := LB_p0.out; have z2 := Y1.out; have z3 := Y2.out; have z4 := Z_a.out; have z5 := Y3.out; have z6 := Z_w0.out; have z7 := Y4.out; have z8 := Z_x.out; have z9 := Y5.out; have z10 := GB_x.out; have z11 := LB_x.out; have z12 := Y6.out; have z13 := Z_g.out; have z14 := Y7.out; have z15 := Y8.out; have z16 := Y9.out; have z17 := Z_b.out; have z18 := Y10.out; have z19 := Y11.out; have z20 := Y12.out; have z21 := Y13.out; omega) hK (by have z0 := GB_p0.out; have z1 := LB_p0.out; have z2 := Y1.out; have z3 := Y2.out; have z4 := Z_a.out; have z5 := Y3.out; have z6 := Z_w0.out; have z7 := Y4.out; have z8 := Z_x.out; have z9 := Y5.out; have z10 := GB_x.out; have z11 := LB_x.out; have z12 := Y6.out; have z13 := Z_g.out; have z14 := Y7.out; have z15 := Y8.out; have z16 := Y9.out; have z17 := Z_b.out; have z18 := Y10.out; have z19 := Y11.out; have z20 := Y12.out; have z21 := Y13.out; omega)); replace O_x := Aside0.mk (S_beside O_x.out (by have z0 := GB_p0.out; have z1 := LB_p0.out; have z2 := Y1.out; have z3 := Y2.out; have z4 := Z_a.out; have z5 := Y3.out; have z6 := Z_w0.out; have z7 := Y4.out; have z8 := Z_x.out; have z9 := Y5.out; have z10 := GB_x.out; have z11 := LB_x.out; have z12 := Y6.out; have z13 := Z_g.out; have z14 := Y7.out; have z15 := Y8.out; have z16 := Y9.out; have z17 := Z_b.out; have z18 := Y10.out; have z19 := Y11.out; have z20 := Y12.out; have z21 := Y13.out; omega) hK (by have z0 := GB_p0.out; have z1 := LB_p0.out; have z2 := Y1.out; have z3 := Y2.out; have z4 := Z_a.out; have z5 := Y3.out; have z6 := Z_w0.out; have z7 := Y4.out; have z8 := Z_x.out; have z9 := Y5.out; have z10 := GB_x.out; have z11 := LB_x.out; have z12 := Y6.out; have z13 := Z_g.out; have z14 := Y7.out; have z15 := Y8.out; have z16 := Y9.out; have z17 := Z_b.out; have z18 := Y10.out; have z19 := Y11.out; have z20 := Y12.out; have z21 := Y13.out; omega)); replace O_b := Aside0.mk (S_beside O_b.out (by have z0 := GB_p0.out; have z1 := LB_p0.out; have z2 := Y1.out; have z3 := Y2.out; have z4 := Z_a.out; have z5 := Y3.out; have z6 := Z_w0.out; have z7 := Y4.out; have z8 := Z_x.out; have z9 := Y5.out; have z10 := GB_x.out; have z11 := LB_x.out; have z12 := Y6.out; have z13 := Z_g.out; have z14 := Y7.out; have z15 := Y8.out; have z16 := Y9.out; have z17 := Z_b.out; have z18 := Y10.out; have z19 := Y11.out; have z20 := Y12.out; have z21 := Y13.out; omega) hK (by have z0 := GB_p0.out; have z1 := LB_p0.out; have z2 := Y1.out; have z3 := Y2.out; have z4 := Z_a.out; have z5 := Y3.out; have z6 := Z_w0.out; have z7 := Y4.out; have z8 := Z_x.out; have z9 := Y5.out; have z10 := GB_x.out; have z11 := LB_x.out; have z12 := Y6.out; have z13 := Z_g.out; have z14 := Y7.out; have z15 := Y8.out; have z16 := Y9.out; have z17 := Z_b.out; have z18 := Y10.out; have z19 := Y11.out; have z20 := Y12.out; have z21 := Y13.out; omega)); replace BK_p0 := Aside0.mk ((hK.2 gb_p0 (by have z0 := GB_p0.out; have z1 := LB_p0.out; have z2 := Y1.out; have z3 := Y2.out; have z4 := Z_a.out; have z5 := Y3.out; have z6 := Z_w0.out; have z7 := Y4.out; have z8 := Z_x.out; have z9 := Y5.out; have z10 := GB_x.out; have z11 := LB_x.out; have z12 := Y6.out; have z13 := Z_g.out; have z14 := Y7.out; have z15 := Y8.out; have z16 := Y9.out; have z17 := Z_b.out; have z18 := Y10.out; have z19 := Y11.out; have z20 := Y12.out; have z21 := Y13.out; omega) (fun h2 => by have y0 := h2.1; have y1 := h2.2; have z0 := GB_p0.out; have z1 := LB_p0.out; have z2 := Y1.out; have z3 := Y2.out; have z4 := Z_a.out; have z5 := Y3.out; have z6 := Z_w0.out; have z7 := Y4.out; have z8 := Z_x.out; have z9 := Y5.out; have z10 := GB_x.out; have z11 := LB_x.out; have z12 := Y6.out; have z13 := Z_g.out; have z14 := Y7.out; have z15 := Y8.out; have z16 := Y9.out; have z17 := Z_b.out; have z18 := Y10.out; have z19 := Y11.out; have z20 := Y12.out; have z21 := Y13.out; omega)).trans BK_p0.out); replace hcz_p0_0 : w14.cell? ⟨gb_p0, 0, none⟩ = some (.slice A0_0 l0_0.length c0_0) := (blk_cell BK_p0.out 0).trans rfl; replace BK_x := Aside0.mk ((hK.2 gb_x (by have z0 := GB_p0.out; have z1 := LB_p0.out; have z2 := Y1.out; have z3 := Y2.out; have z4 := Z_a.out; have z5 := Y3.out; have z6 := Z_w0.out; have z7 := Y4.out; have z8 := Z_x.out; have z9 := Y5.out; have z10 := GB_x.out; have z11 := LB_x.out; have z12 := Y6.out; have z13 := Z_g.out; have z14 := Y7.out; have z15 := Y8.out; have z16 := Y9.out; have z17 := Z_b.out; have z18 := Y10.out; have z19 := Y11.out; have z20 := Y12.out; have z21 := Y13.out; omega) (fun h2 => by have y0 := h2.1; have y1 := h2.2; have z0 := GB_p0.out; have z1 := LB_p0.out; have z2 := Y1.out; have z3 := Y2.out; have z4 := Z_a.out; have z5 := Y3.out; have z6 := Z_w0.out; have z7 := Y4.out; have z8 := Z_x.out; have z9 := Y5.out; have z10 := GB_x.out; have z11 := LB_x.out; have z12 := Y6.out; have z13 := Z_g.out; have z14 := Y7.out; have z15 := Y8.out; have z16 := Y9.out; have z17 := Z_b.out; have z18 := Y10.out; have z19 := Y11.out; have z20 := Y12.out; have z21 := Y13.out; omega)).trans BK_x.out); replace hcz_x_0 : w14.cell? ⟨gb_x, 0, none⟩ = some (.slice A_x X.length c_x) := (blk_cell BK_x.out 0).trans rfl; replace O_g := Aside0.mk (R_marked O_g.out hO rfl); have Y14 := Aside0.mk hK.1; replace HB := Aside0.mk hB2; clear hO hB2 hK)
    go_wp2_with (go_at_call 60; clear T11; refine (len_R O_g.out (laws_heldMOpS.calls _ _ _ _ _ _ _ (C_of_R O_g.out) (L_of_R O_g.out) E7.out)).mono ?_; rintro e w15 ⟨rfl, hd⟩; have hb := below_drawn hd; replace O_a := Aside0.mk (Kd.S_below O_a.out hb); replace O_w0 := Aside0.mk (Kd.R_below O_w0.out hb); replace O_x := Aside0.mk (Kd.S_below O_x.out hb); replace O_g := Aside0.mk (Kd.R_below O_g.out hb); replace O_b := Aside0.mk (Kd.S_below O_b.out hb); replace BK_p0 := Aside0.mk (blk_below (g := gb_p0) (o := .cells #[.slice A0_0 l0_0.length c0_0] 53 (0, 0)) BK_p0.out hb); replace hcz_p0_0 : w15.cell? ⟨gb_p0, 0, none⟩ = some (.slice A0_0 l0_0.length c0_0) := (blk_cell BK_p0.out 0).trans rfl; replace BK_x := Aside0.mk (blk_below (g := gb_x) (o := .cells #[.slice A_x X.length c_x] 58 (0, 0)) BK_x.out hb); replace hcz_x_0 : w15.cell? ⟨gb_x, 0, none⟩ = some (.slice A_x X.length c_x) := (blk_cell BK_x.out 0).trans rfl; have Y15 := Aside0.mk hb.size; replace HB := Aside0.mk (below_step HB.out hb); clear hb)
    go_wp2_with (go_at_call 43; clear T12; refine (laws_toCode.calls _ _ _ _ _ _ (Kd.C_below HR_l0_0.out HB.out) (HC_l0_0.out) E1.out).mono ?_; rintro e w16 ⟨v_c, rfl, hO, hb⟩; replace O_a := Aside0.mk (Kd.S_below O_a.out hb); replace O_w0 := Aside0.mk (Kd.R_below O_w0.out hb); replace O_x := Aside0.mk (Kd.S_below O_x.out hb); replace O_g := Aside0.mk (Kd.R_below O_g.out hb); replace O_b := Aside0.mk (Kd.S_below O_b.out hb); replace BK_p0 := Aside0.mk (blk_below (g := gb_p0) (o := .cells #[.slice A0_0 l0_0.length c0_0] 53 (0, 0)) BK_p0.out hb); replace hcz_p0_0 : w16.cell? ⟨gb_p0, 0, none⟩ = some (.slice A0_0 l0_0.length c0_0) := (blk_cell BK_p0.out 0).trans rfl; replace BK_x := Aside0.mk (blk_below (g := gb_x) (o := .cells #[.slice A_x X.length c_x] 58 (0, 0)) BK_x.out hb); replace hcz_x_0 : w16.cell? ⟨gb_x, 0, none⟩ = some (.slice A_x X.length c_x) := (blk_cell BK_x.out 0).trans rfl; obtain ⟨lo_c, hi_c, hz, hO⟩ := S_born hO HB.out; have Z_c := Aside0.mk hz; clear hz; obtain ⟨A_c, c_c, rfl⟩ := Kd.S_slice hO; have O_c := Aside0.mk hO; clear hO; have Y16 := Aside0.mk hb.size; replace HB := Aside0.mk (below_step HB.out hb); clear hb)
    go_wp2_with (go_at_call 57; clear T13; refine (impl_Compile.calls _ _ _ _ _ _ _ (C_of_S O_c.out) (L_of_S O_c.out) E3.out).mono ?_; rintro e w17 ⟨v_h, rfl, hO, hb⟩; replace O_a := Aside0.mk (Kd.S_below O_a.out hb); replace O_w0 := Aside0.mk (Kd.R_below O_w0.out hb); replace O_x := Aside0.mk (Kd.S_below O_x.out hb); replace O_g := Aside0.mk (Kd.R_below O_g.out hb); replace O_b := Aside0.mk (Kd.S_below O_b.out hb); replace O_c := Aside0.mk (Kd.S_below O_c.out hb); replace BK_p0 := Aside0.mk (blk_below (g := gb_p0) (o := .cells #[.slice A0_0 l0_0.length c0_0] 53 (0, 0)) BK_p0.out hb); replace hcz_p0_0 : w17.cell? ⟨gb_p0, 0, none⟩ = some (.slice A0_0 l0_0.length c0_0) := (blk_cell BK_p0.out 0).trans rfl; replace BK_x := Aside0.mk (blk_below (g := gb_x) (o := .cells #[.slice A_x X.length c_x] 58 (0, 0)) BK_x.out hb); replace hcz_x_0 : w17.cell? ⟨gb_x, 0, none⟩ = some (.slice A_x X.length c_x) := (blk_cell BK_x.out 0).trans rfl; obtain ⟨lo_h, hi_h, hz, hO⟩ := R_born hO HB.out; have Z_h := Aside0.mk hz; clear hz; obtain ⟨A_h, c_h, rfl⟩ := Kd.R_slice hO; have O_h := Aside0.mk hO; clear hO; have Y17 := Aside0.mk hb.size; replace HB := Aside0.mk (below_step HB.out hb); clear hb)
    go_wp2_with (go_at_call 19; clear T14; refine (laws_eqMOpS.calls _ _ _ _ _ _ _ _ _ (C_of_R O_h.out) (L_of_R O_h.out) (C_of_R O_w0.out) (L_of_R O_w0.out) E4.out).mono ?_; rintro e w18 ⟨rfl, hb⟩; replace O_a := Aside0.mk (Kd.S_below O_a.out hb); replace O_w0 := Aside0.mk (Kd.R_below O_w0.out hb); replace O_x := Aside0.mk (Kd.S_below O_x.out hb); replace O_g := Aside0.mk (Kd.R_below O_g.out hb); replace O_b := Aside0.mk (Kd.S_below O_b.out hb); replace O_c := Aside0.mk (Kd.S_below O_c.out hb); replace O_h := Aside0.mk (Kd.R_below O_h.out hb); replace BK_p0 := Aside0.mk (blk_below (g := gb_p0) (o := .cells #[.slice A0_0 l0_0.length c0_0] 53 (0, 0)) BK_p0.out hb); replace hcz_p0_0 : w18.cell? ⟨gb_p0, 0, none⟩ = some (.slice A0_0 l0_0.length c0_0) := (blk_cell BK_p0.out 0).trans rfl; replace BK_x := Aside0.mk (blk_below (g := gb_x) (o := .cells #[.slice A_x X.length c_x] 58 (0, 0)) BK_x.out hb); replace hcz_x_0 : w18.cell? ⟨gb_x, 0, none⟩ = some (.slice A_x X.length c_x) := (blk_cell BK_x.out 0).trans rfl; have Y18 := Aside0.mk hb.size; replace HB := Aside0.mk (below_step HB.out hb); clear hb)
    go_wp2_with (go_at_call 60; clear T15; refine (len_R O_g.out (laws_heldMOpS.calls _ _ _ _ _ _ _ (C_of_R O_g.out) (L_of_R O_g.out) E7.out)).mono ?_; rintro e w19 ⟨rfl, hd⟩; have hb := below_drawn hd; replace O_a := Aside0.mk (Kd.S_below O_a.out hb); replace O_w0 := Aside0.mk (Kd.R_below O_w0.out hb); replace O_x := Aside0.mk (Kd.S_below O_x.out hb); replace O_g := Aside0.mk (Kd.R_below O_g.out hb); replace O_b := Aside0.mk (Kd.S_below O_b.out hb); replace O_c := Aside0.mk (Kd.S_below O_c.out hb); replace O_h := Aside0.mk (Kd.R_below O_h.out hb); replace BK_p0 := Aside0.mk (blk_below (g := gb_p0) (o := .cells #[.slice A0_0 l0_0.length c0_0] 53 (0, 0)) BK_p0.out hb); replace hcz_p0_0 : w19.cell? ⟨gb_p0, 0, none⟩ = some (.slice A0_0 l0_0.length c0_0) := (blk_cell BK_p0.out 0).trans rfl; replace BK_x := Aside0.mk (blk_below (g := gb_x) (o := .cells #[.slice A_x X.length c_x] 58 (0, 0)) BK_x.out hb); replace hcz_x_0 : w19.cell? ⟨gb_x, 0, none⟩ = some (.slice A_x X.length c_x) := (blk_cell BK_x.out 0).trans rfl; have Y19 := Aside0.mk hb.size; replace HB := Aside0.mk (below_step HB.out hb); clear hb)
    go_ret
    exact ⟨rfl, HB.out⟩
  · obtain ⟨hm0, hg⟩ := hok
    have hm := Nat.le_trans hm0 maxLen_le
    obtain ⟨_, g0⟩ := ev_get (laws_szCode_ev l0_0 1048576 (by omega) (by omega) hm hg)
    rw [if_pos (by omega)] at g0
    have E0 := Aside0.mk g0
    clear g0
    have T1 : Aside0 True := ⟨trivial⟩
    have T2 : Aside0 True := ⟨trivial⟩
    go_enter Try.func14, Try.ntmps14
    go_wp2_with ((with_reducible refine gate_dst (N := 1) rfl ?_); clear T1; refine box_event ?hg (N := 1) ?hd (cs := #[.slice A0_0 l0_0.length c0_0]) (t := 53) ?hr ?_; (case hd => rfl); (case hg => rfl); (case hr => first | (go_simp; done) | (go_simp; rfl)); intro gb_p0 hg w1 hbox hb; have BK_p0 := Aside0.mk hbox; have GB_p0 := Aside0.mk hg; have LB_p0 := Aside0.mk (blk_lt hbox); have Y1 := Aside0.mk hb.size; replace HB := Aside0.mk (below_step HB.out hb); have hcz_p0_0 : w1.cell? ⟨gb_p0, 0, none⟩ = some (.slice A0_0 l0_0.length c0_0) := (blk_cell BK_p0.out 0).trans rfl; clear hb hg hbox)
    go_wp2_with (go_at_call 41; clear T2; refine (laws_szCode.calls _ _ _ _ _ _ _ (Kd.C_below HR_l0_0.out HB.out) (HC_l0_0.out) E0.out).mono ?_; rintro e w2 ⟨rfl, hb⟩; replace BK_p0 := Aside0.mk (blk_below (g := gb_p0) (o := .cells #[.slice A0_0 l0_0.length c0_0] 53 (0, 0)) BK_p0.out hb); replace hcz_p0_0 : w2.cell? ⟨gb_p0, 0, none⟩ = some (.slice A0_0 l0_0.length c0_0) := (blk_cell BK_p0.out 0).trans rfl; have Y2 := Aside0.mk hb.size; replace HB := Aside0.mk (below_step HB.out hb); clear hb)
    go_ret
    exact ⟨rfl, HB.out⟩
end Go.Proofs.Ytimdoghlnegpgaa.P
/- Arguments of plain data (nested slices and structs) read as the printed walks' kinds say, over any program whose types are as told. -/
namespace Go.Proofs.YtimdoghlnegpgaaOpen
open Go.RowKit Go.ChangeShapes Go.WideShapes Go.Proofs.YtimdoghlnegpgaaW.PrintWords
set_option linter.unusedVariables false
set_option linter.unusedSimpArgs false

structure Opens {α : Type} (P : Program) (t : TypeId) (k : Kd α) (G : α → Prop) : Prop where
  sz : P.cellsOf t = k.sz
  op : ∀ {H : Type} (enc : TypeId × Value → H) (w : World) (base : Nat) (spare : Nat → Bool) (held : Bool) (fuel : Nat) (cs : List Value) (x : DataW H × List MemPlace), DataW.trod enc P w base spare held fuel t cs = some x → ∃ v, k.K w v cs ∧ G v

variable {P : Program} {t e : TypeId}

theorem opens_int {k : IntKind} (ht : P.underlying t = some (.int k)) (hc : P.cellsOf t = 1) : Opens P t (Kd.int k) (fun n => (Lit.int k n).wf = true) where
  sz := hc
  op := fun enc w base spare held fuel cs x h => by
    obtain ⟨n, rfl, _, hw⟩ := DataW.trod_int ht h
    exact ⟨n, rfl, hw⟩
theorem opens_bool (ht : P.underlying t = some .bool) (hc : P.cellsOf t = 1) : Opens P t Kd.bool (fun _ => True) where
  sz := hc
  op := fun enc w base spare held fuel cs x h => by
    obtain ⟨b, rfl, _⟩ := DataW.trod_bool ht h
    exact ⟨b, rfl, trivial⟩
theorem opens_string (ht : P.underlying t = some .string) (hc : P.cellsOf t = 1) : Opens P t Kd.string (fun s => s.size ≤ maxLen) where
  sz := hc
  op := fun enc w base spare held fuel cs x h => by
    obtain ⟨s, rfl, _, hs⟩ := DataW.trod_string ht h
    exact ⟨s, rfl, hs⟩

theorem exists_list {α : Type} {p : Nat → α → Prop} : ∀ n, (∀ i, i < n → ∃ v, p i v) → ∃ xs : List α, xs.length = n ∧ ∀ i v, xs[i]? = some v → p i v
  | 0, _ => ⟨[], rfl, fun i v h => by simp at h⟩
  | n + 1, h => by
    obtain ⟨xs, hl, hx⟩ := exists_list n (fun i hi => h i (by omega))
    obtain ⟨v, hv⟩ := h n (by omega)
    refine ⟨xs ++ [v], by simp [hl], fun i u hu => ?_⟩
    by_cases hi : i < n
    · rw [List.getElem?_append_left (by omega)] at hu
      exact hx i u hu
    · rw [List.getElem?_append_right (by omega)] at hu
      have : i - xs.length = 0 := by
        have := (List.getElem?_eq_some_iff.1 hu).1
        simp at this
        omega
      rw [this] at hu
      have hi' : i = n := by omega
      subst hi'
      simp at hu
      subst hu
      exact hv

theorem opens_slice {α : Type} {k : Kd α} {G : α → Prop} (ht : P.underlying t = some (.slice e)) (hc : P.cellsOf t = 1) (h : Opens P e k G) : Opens P t (Kd.slice e k) (fun xs => xs.length ≤ maxLen ∧ ∀ x ∈ xs, G x) where
  sz := hc
  op := fun enc w base spare held fuel cs x hx => by
    rcases DataW.trod_slice ht hx with ⟨rfl, rfl⟩ | ⟨a, len, cap, elems, rest, n, _, rfl, _, _, hl, hm, hlen, hel, _, _⟩
    · exact ⟨[], ⟨none, 0, rfl, Nat.le_refl _, Kd.C_nil k w⟩, by simp, fun x hx => absurd hx List.not_mem_nil⟩
    · have each : ∀ i, i < len → ∃ v, G v ∧ ∃ c, c.length = k.sz ∧ k.K w v c ∧ ∀ j u, c[j]? = some u → w.cell? (a.add (i * k.sz + j)) = some u := by
        intro i hi
        have h1 := hel i hi
        rw [List.getElem?_eq_getElem (by omega), Option.bind_eq_some_iff, h.sz] at h1
        obtain ⟨c, hc1, hc2⟩ := h1
        obtain ⟨v, hv, hg⟩ := h.op enc w base spare held n c _ hc2
        obtain ⟨_, hcl, hcell⟩ := World.cells?_some hc1
        refine ⟨v, hg, c, hcl, hv, fun j u hu => ?_⟩
        have hj : j < k.sz := by
          have := (List.getElem?_eq_some_iff.1 hu).1
          omega
        rw [← Addr.add_add, hcell j hj]
        exact hu
      obtain ⟨xs, hxl, hx⟩ := exists_list len each
      have hmx : (maxLen : Nat) ≤ 9223372036854775807 := by unfold maxLen; omega
      refine ⟨xs, ⟨some a, cap, by rw [hxl], by omega, ?_⟩, by omega, fun x hx' => ?_⟩
      · refine ⟨rfl, by omega, fun _ => ⟨a, rfl, fun j p hp => ?_⟩⟩
        obtain ⟨_, c, h1, h2, h3⟩ := hx j p hp
        exact ⟨c, h1, h2, h3⟩
      · obtain ⟨i, hi⟩ := List.mem_iff_getElem?.1 hx'
        exact (hx i x hi).1

/-- A struct's fields from a cell on. -/
structure Fields {α : Type} (P : Program) (fs : List Field) (off : Nat) (k : Kd α) (G : α → Prop) : Prop where
  from_ : ∀ f ∈ fs, off ≤ f.offset
  op : ∀ {H : Type} (enc : TypeId × Value → H) (w : World) (base : Nat) (spare : Nat → Bool) (held : Bool) (n : Nat) (cs : List Value), cs.length = k.sz → (∀ f ∈ fs, ∃ y, DataW.trod enc P w base spare held n f.type ((cs.drop (f.offset - off)).take (P.cellsOf f.type)) = some y) → ∃ v, k.K w v cs ∧ G v

theorem fields_one {α : Type} {k : Kd α} {G : α → Prop} {f : Field} (h : Opens P f.type k G) : Fields P [f] f.offset k G where
  from_ := fun g hg => by rw [List.mem_singleton.1 hg]; exact Nat.le_refl _
  op := fun enc w base spare held n cs hl hf => by
    obtain ⟨y, hy⟩ := hf f (by simp)
    rw [Nat.sub_self, List.drop_zero, h.sz, ← hl, List.take_length] at hy
    exact h.op enc w base spare held n cs y hy
theorem fields_cons {α β : Type} {k : Kd α} {k' : Kd β} {G : α → Prop} {G' : β → Prop} {f : Field} {fs : List Field} (h : Opens P f.type k G) (hs : Fields P fs (f.offset + k.sz) k' G') : Fields P (f :: fs) f.offset (Kd.pair k k') (fun x => G x.1 ∧ G' x.2) where
  from_ := fun g hg => by
    rcases List.mem_cons.1 hg with rfl | hg
    · exact Nat.le_refl _
    · have := hs.from_ g hg
      omega
  op := fun enc w base spare held n cs hl hf => by
    have hl' : cs.length = k.sz + k'.sz := hl
    obtain ⟨y, hy⟩ := hf f (by simp)
    rw [Nat.sub_self, List.drop_zero, h.sz] at hy
    obtain ⟨v, hv, hg⟩ := h.op enc w base spare held n _ y hy
    obtain ⟨u, hu, hg'⟩ := hs.op enc w base spare held n (cs.drop k.sz) (by rw [List.length_drop]; omega) (fun g hg => by
      obtain ⟨y, hy⟩ := hf g (by simp [hg])
      refine ⟨y, ?_⟩
      have := hs.from_ g hg
      rw [List.drop_drop, show k.sz + (g.offset - (f.offset + k.sz)) = g.offset - f.offset by omega]
      exact hy)
    exact ⟨(v, u), ⟨cs.take k.sz, cs.drop k.sz, (List.take_append_drop _ _).symm, hv, hu⟩, hg, hg'⟩
theorem opens_struct {α : Type} {k : Kd α} {G : α → Prop} {fs : Array Field} (ht : P.underlying t = some (.struct fs)) (hc : P.cellsOf t = k.sz) (h : Fields P fs.toList 0 k G) : Opens P t k G where
  sz := hc
  op := fun enc w base spare held fuel cs x hx => by
    obtain ⟨xs, n, _, _, hl, hlen, hf⟩ := DataW.trod_struct ht hx
    refine h.op enc w base spare held n cs (hl.trans hc) (fun f hf' => ?_)
    obtain ⟨i, hi⟩ := List.mem_iff_getElem?.1 hf'
    rw [Array.getElem?_toList] at hi
    have h1 := hf i f hi
    have : i < fs.size := by
      have := (Array.getElem?_eq_some_iff.1 hi).1
      exact this
    rw [List.getElem?_eq_getElem (by omega)] at h1
    rw [Nat.sub_zero]
    exact ⟨_, h1⟩
theorem opens_iso {α β : Type} {k : Kd α} {G : α → Prop} (f : β → α) (g : α → β) (hfg : ∀ x, f (g x) = x) (h : Opens P t k G) : Opens P t (Kd.iso k f) (fun y => G (f y)) where
  sz := h.sz
  op := fun enc w base spare held fuel cs x hx => by
    obtain ⟨v, hv, hg⟩ := h.op enc w base spare held fuel cs x hx
    exact ⟨g v, by show k.K w (f (g v)) cs; rw [hfg]; exact hv, by rw [hfg]; exact hg⟩
theorem opens_imp {α : Type} {k : Kd α} {G G' : α → Prop} (h : Opens P t k G) (hg : ∀ x, G x → G' x) : Opens P t k G' where
  sz := h.sz
  op := fun enc w base spare held fuel cs x hx => by
    obtain ⟨v, hv, hh⟩ := h.op enc w base spare held fuel cs x hx
    exact ⟨v, hv, hg v hh⟩
end Go.Proofs.YtimdoghlnegpgaaOpen
/- The pure statement of the law FnExactCompile: its arguments are those that its walk is told of. -/
set_option linter.unusedVariables false
namespace Go.Proofs.Ytimdoghlnegpgaa.fnExactCompile.Pure
open Go.RowKit Go.Proofs.YtimdoghlnegpgaaW.PrintWords Go.Proofs.YtimdoghlnegpgaaW.PrintLast Go.Proofs.Ytimdoghlnegpgaa.P Go.Proofs.YtimdoghlnegpgaaEv
theorem pure_FnExactCompile : ∀ (l0_0 : List S124), (l0_0.length ≤ maxLen ∧ ∀ y ∈ l0_0, g124 y) → ∃ k, laws_FnExactCompile.f k l0_0 = some true := by
  intro l0_0 h0
  exact ⟨0, if_pos (h0)⟩
end Go.Proofs.Ytimdoghlnegpgaa.fnExactCompile.Pure
-- The kit's printed words WSized, cut down by wip/gen/pack.py to what this proof reaches.
/- The law FnExactCompile holds: every call returns true and leaves its arguments as they were. Conditions: none beyond what the given row says. This text: the row, out of the walk's contract and the pure statement. -/
namespace Go.Proofs.Ytimdoghlnegpgaa.fnExactCompile
open Go.ChangeShapes Go.WideShapes Go.ChangeAt Go.RowKit Go.Proofs.YtimdoghlnegpgaaW.PrintWords Go.Proofs.YtimdoghlnegpgaaOpen Go.Proofs.Ytimdoghlnegpgaa.P
open Go.ChangeMaps (open_string shut_string)
set_option linter.unusedVariables false
set_option linter.unusedSimpArgs false
theorem own : ownKnob Try.prog.godebug = none := by kernel_rfl
theorem laidOut : laidOutB Try.prog = true := by kernel_rfl
theorem o148 : Opens Try.prog 148 k148 g148 := opens_imp (opens_iso (fun x : S148 => (x.f0, x.f1, x.f2)) (fun p => ⟨p.1, p.2.1, p.2.2⟩) (fun _ => rfl) (opens_struct Try.underlying148 (by kernel_rfl) (fields_cons (opens_int Try.underlying2 (by kernel_rfl)) (fields_cons (opens_int Try.underlying2 (by kernel_rfl)) (fields_one (opens_int Try.underlying2 (by kernel_rfl))))))) (fun _ h => h)
theorem o124 : Opens Try.prog 124 k124 g124 := opens_imp (opens_iso (fun x : S124 => (x.f0, x.f1, x.f2)) (fun p => ⟨p.1, p.2.1, p.2.2⟩) (fun _ => rfl) (opens_struct Try.underlying124 (by kernel_rfl) (fields_cons (opens_int Try.underlying2 (by kernel_rfl)) (fields_cons (opens_slice Try.underlying122 (by kernel_rfl) o148) (fields_one (opens_int Try.underlying2 (by kernel_rfl))))))) (fun _ h => h)
set_option maxRecDepth 100000 in
theorem lifted (os : Os) (started : os.Started) (H : Type) (enc : TypeId × Value → H) :
    ReturnsInHanded {} Try.checked os 14 .any (Rows.fnExactCompileSpec.pre6 enc Try.prog Try.f14 Rows.fnExactCompileRow.domain false) (Rows.fnExactCompileSpec.post enc Try.prog Try.f14 false true false false) := by
  refine returnsInHanded_of_change_sized (C := Try.checked) own started (by kernel_rfl) Try.func14
    (ChangeSpec.witness6 (enc := enc) (C := Try.checked) false ⟨#[], #[.agg #[.slice none 0 0]], []⟩ 8 (by kernel_rfl) (by kernel_rfl) (by kernel_rfl) (by kernel_rfl)) ?_
  intro W base args ds gs before hval0 hW hcnd hsz0 _
  have hsz : (DataW.weightsEach Try.prog (Try.f14.params.toList ++ Rows.fnExactCompileSpec.plain.varTypes Try.prog) (ds ++ gs)).all (· ≤ reachBytes) = true := hsz0
  have hval : ∀ (j : Nat) t v, Try.f14.params[j]? = some t → args[j]? = some v → Value.okWide Try.prog W .any base t v := hval0
  have hW' := hW
  obtain ⟨p, q, hA0, hV, rfl, hfz, hnd⟩ := hW
  have hA : DataW.TrodAll enc Try.prog W 0 (fun _ => true) true Try.f14.params.toList args.toList ds p := hA0
  rw [Try.params14] at hA hval hsz
  obtain ⟨v0, vs0, d0, ds0, p0, q0, hargs, rfl, rfl, h0, r0⟩ := trodAll_cons hA
  obtain ⟨rfl, rfl, rfl⟩ := trodAll_nil r0
  obtain rfl : args = #[v0] := by cases args; simp_all
  obtain ⟨rfl, rfl⟩ := trodVars_none hV
  have k0' := h0
  have lt0 : ∀ x ∈ p0, x.block < W.heap.size := by obtain ⟨m, hm⟩ := k0'; exact DataW.trod_lt m _ _ _ hm
  obtain ⟨cs0, rfl, hn0⟩ := okWide_struct Try.underlying53 (hval 0 53 v0 rfl rfl)
  obtain ⟨fuel0, hf0⟩ := h0
  have hf0' : DataW.trod enc Try.prog W 0 (fun _ => true) true fuel0 53 cs0.toList = some (d0, p0) := hf0
  obtain ⟨x0, hK0, hG0⟩ := (opens_struct Try.underlying53 (by kernel_rfl) (fields_one (opens_slice Try.underlying51 (by kernel_rfl) o124))).op enc W 0 (fun _ => true) true fuel0 _ _ hf0'
  have hG0' := hG0
  obtain ⟨A0_0, c0_0, hs0_0, hl0_0, hC0_0⟩ := hK0
  obtain rfl : cs0 = #[.slice A0_0 x0.length c0_0] := by
    apply Array.ext'
    simp only [hs0_0, List.cons_append, List.nil_append]
  clear hA0 hval0 hsz0 hsz
  obtain ⟨k, hk⟩ := Pure.pure_FnExactCompile _ hG0'
  refine (laws_FnExactCompile.calls k A0_0 c0_0 _ true W hC0_0 hl0_0 hk).mono fun e W' ⟨he, bel0⟩ => ?_
  have bel : Below W.heap.size W W' := bel0
  subst he
  exact ⟨_, rfl, _, _, _, [], _, [], hW', trodAll_mk1 (shut_bool Try.underlying4 _), (trodAll_cons_mk (Below.trod laidOut (by kernel_rfl) (of_decide_eq_true (by kernel_rfl)) k0' bel lt0) trodAll_mk0), rfl, bel.frame _, fun h => by cases h⟩
theorem over : Rows.fnExactCompileRow.holds Try.pinned (OpenSpec.ofChange Rows.fnExactCompileSpec) :=
  OpenClaim.holds_of_wide 14 Try.f14 rfl rfl rfl rfl rfl rfl rfl ⟨rfl, rfl, rfl, rfl, rfl⟩ rfl rfl rfl rfl rfl (by kernel_rfl) Try.func14 (by kernel_rfl)
    (of_decide_eq_true (by kernel_rfl)) (by unfold Func.isWrapper; first | (rw [if_pos (by decide +kernel)]; kernel_rfl) | (rw [if_neg (by decide +kernel)]; exact ⟨rfl, rfl⟩))
    (fun os started H enc _ => lifted os started H enc)
theorem proved : Rows.FnExactCompileSaid := over
#print axioms proved
end Go.Proofs.Ytimdoghlnegpgaa.fnExactCompile
namespace Go.Proofs.Ytimdoghlnegpgaa
/-- The row, under a short name, for the claim. -/
theorem fnExactCompile_holds : Rows.FnExactCompileSaid := fnExactCompile.proved
end Go.Proofs.Ytimdoghlnegpgaa
