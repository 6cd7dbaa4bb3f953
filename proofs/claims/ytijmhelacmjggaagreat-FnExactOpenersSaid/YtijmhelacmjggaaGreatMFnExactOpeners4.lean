/- The law FnExactOpeners holds for every call: part 5 of 6 of the proof (walks of functions, and what they answer). Conditions: none beyond what the given row says. -/
import Derived.Test.YtijmhelacmjggaaGreatMFnExactOpeners0
import Derived.Test.YtijmhelacmjggaaGreatMFnExactOpeners3
import Derived.Test.YtijmhelacmjggaaGreatMFnExactOpeners2
import Derived.Test.YtijmhelacmjggaaGreatMFnExactOpeners1
import Derived.Shelf.Abstract
import Derived.Laws.CopyOwn
set_option maxHeartbeats 16000000
set_option maxRecDepth 100000
namespace Go.Proofs.YtijmhelacmjggaaGreat.P
open Go.RowKit Go.Shelf Go.Proofs.YtijmhelacmjggaaGreatW.PrintWords Go.Proofs.YtijmhelacmjggaaGreatW.PrintLast Go.Proofs.YtijmhelacmjggaaGreatW.PrintMore Go.Proofs.YtijmhelacmjggaaGreatEv
set_option linter.unusedVariables false
set_option linter.unusedSimpArgs false
theorem endsAt_hand (A0 : Option Addr) (c0 : Nat) (l : List S121) (w : World) (hn : l.length ≤ 1048576) (hkl : ∀ x ∈ l, x.f2.length ≤ 9223372036854775807) (hr : Kd.C k121 w A0 l.length l) (hc : l.length ≤ c0) :
    Calls Tryz.prog 108 #[.agg #[.slice A0 l.length c0], .string ⟨#[]⟩, .int .i64 0] w fun e w' => ∃ v, e = .returned v ∧ Kd.R (Kd.int .i64) 2 w' w.heap.size (fun _ => True) v (if rxB l && nullE l (l.length - 1) then [0] else []) ∧ Below w.heap.size w w' := by
  obtain ⟨kx, hx⟩ := ev_get (spec_RxOk_ev l hn hkl); have CN := q_ hr; have CL := q_ hc; have HX := q_ hx
  obtain ⟨gx, hgx⟩ : ∃ gx, w.heap.size = gx := ⟨_, rfl⟩
  have BX : J0 ((w.alloc (.cells #[.slice A0 l.length c0] 58)).heap[gx]? = some (.cells #[.slice A0 l.length c0] 58 (0, 0))) := ⟨by rw [← hgx]; exact blk_new w _⟩
  have HB := q_ (below_alloc (Below.refl w.heap.size w) (.cells #[.slice A0 l.length c0] 58))
  obtain ⟨tx, htx⟩ : ∃ tx : ByteArray, (⟨#[]⟩ : ByteArray) = tx := ⟨_, rfl⟩
  have ht : tx.size = 0 := by rw [← htx]; rfl
  rw [htx]
  clear hr hc hx htx
  cases hrx : rxB l with
  | false =>
    rw [hrx] at HX
    clear hrx
    go_enter Tryz.func108, Tryz.ntmps108
    go_wp2_with (first | ((with_reducible refine gate_dst (N := 11) rfl ?_); refine Kd.R_lit (Kd.int .i64) _ 2 ?hg (N := 11) ?hd (xs := ([] : List Int)) (inner := []) (ok := fun _ => True) (okp := fun _ => True) ?hr ?hp (fun _ hk => hk) trivial (Below.refl _ _) (Nat.le_refl _) (by simp) ?_; (case hd => rfl); (case hg => rfl); (case hr => first | (go_simp; done) | (go_simp; rfl)); (case hp => exact (Reps.none _ _)); intro v1 w1 ho hb hg_ hnew_; clear hg_ hnew_; have nBX := q_ (blk_below BX.o hb); have HO := q_ (Kd.R_lower ho (below_size HB.o)); have nHB := q_ (below_step HB.o hb); clear BX HB ho hb; have BX := nBX; have HB := nHB; clear nBX nHB; have hx0 : w1.cell? ⟨gx, 0, none⟩ = some (.slice A0 l.length c0) := (blk_cell BX.o 0).trans rfl) | (go_at_call 53; refine (spec_RxOk.calls kx A0 c0 l false _ (Kd.C_below CN.o (by repeat (first | (with_reducible exact HB.o) | apply below_alloc | apply pw_below_drewN | apply below_drew1))) CL.o HX.o).mono ?_; rintro e w3 ⟨rfl, hb3⟩; have nBX := q_ (blk_below (by (with_reducible repeat (first | refine blk_drewN ?_ _ | refine blk_drew ?_)); exact BX.o) hb3); have nHB := q_ (below_step (by repeat (first | (with_reducible exact HB.o) | apply below_alloc | apply pw_below_drewN | apply below_drew1)) hb3); have nO := q_ (Kd.R_below (ra_ HO.o) hb3); clear BX HB HO hb3; have BX := nBX; have HB := nHB; have HO := nO; clear nBX nHB nO; have hx0 : w3.cell? ⟨gx, 0, none⟩ = some (.slice A0 l.length c0) := (blk_cell BX.o 0).trans rfl) | (go_at_call 51; refine (spec_l1In.calls 0 0 0 true _ rfl).mono ?_; rintro e w4 ⟨rfl, ⟨nd, rfl⟩⟩))
    go_ret
    subst hgx
    exact ⟨_, rfl, by simpa using HO.o, by repeat (first | (with_reducible exact HB.o) | apply below_alloc | apply pw_below_drewN | apply below_drew1)⟩
  | true =>
    rw [hrx] at HX
    obtain ⟨hl1, hl3, hok⟩ := rxB_parts hrx; clear hrx
    obtain ⟨res, hres⟩ : ∃ res : List Int, (if (true && nullE l (l.length - 1)) = true then [0] else []) = res := ⟨_, rfl⟩
    rw [hres]
    have HRES := q_ hres; clear hres
    go_enter Tryz.func108, Tryz.ntmps108
    go_wp2_with (first | ((with_reducible refine gate_dst (N := 11) rfl ?_); refine Kd.R_lit (Kd.int .i64) _ 2 ?hg (N := 11) ?hd (xs := ([] : List Int)) (inner := []) (ok := fun _ => True) (okp := fun _ => True) ?hr ?hp (fun _ hk => hk) trivial (Below.refl _ _) (Nat.le_refl _) (by simp) ?_; (case hd => rfl); (case hg => rfl); (case hr => first | (go_simp; done) | (go_simp; rfl)); (case hp => exact (Reps.none _ _)); intro v1 w1 ho hb hg_ hnew_; clear hg_ hnew_; have nBX := q_ (blk_below BX.o hb); have HO := q_ (Kd.R_lower ho (below_size HB.o)); have nHB := q_ (below_step HB.o hb); clear BX HB ho hb; have BX := nBX; have HB := nHB; clear nBX nHB; have hx0 : w1.cell? ⟨gx, 0, none⟩ = some (.slice A0 l.length c0) := (blk_cell BX.o 0).trans rfl) | (go_at_call 53; refine (spec_RxOk.calls kx A0 c0 l true _ (Kd.C_below CN.o (by repeat (first | (with_reducible exact HB.o) | apply below_alloc | apply pw_below_drewN | apply below_drew1))) CL.o HX.o).mono ?_; rintro e w3 ⟨rfl, hb3⟩; have nBX := q_ (blk_below (by (with_reducible repeat (first | refine blk_drewN ?_ _ | refine blk_drew ?_)); exact BX.o) hb3); have nHB := q_ (below_step (by repeat (first | (with_reducible exact HB.o) | apply below_alloc | apply pw_below_drewN | apply below_drew1)) hb3); have nO := q_ (Kd.R_below (ra_ HO.o) hb3); clear BX HB HO hb3; have BX := nBX; have HB := nHB; have HO := nO; clear nBX nHB nO; have hx0 : w3.cell? ⟨gx, 0, none⟩ = some (.slice A0 l.length c0) := (blk_cell BX.o 0).trans rfl) | (go_at_call 51; refine (spec_l1In.calls 0 0 0 true _ rfl).mono ?_; rintro e w4 ⟨rfl, ⟨nd, rfl⟩⟩))
    clear hx0; replace BX := q_ (blk_drewN BX.o nd); replace HB := q_ (pw_below_drewN HB.o nd); replace HO := q_ (Kd.R_drewN HO.o nd)
    generalize hW : w3.drewN nd = W at *
    clear hW; have BX1 := q_ (blk_drew BX.o); have HB1 := q_ (below_drew1 HB.o); have HO1 := q_ (Kd.R_drew HO.o)
    have hmul : wrap64 ((l.length : Int) * wrap64 1) = (l.length : Int) := by rw [wrap_id (x := 1) (by omega) (by omega), Int.mul_one]; exact wrap_id (by omega) (by omega)
    have hwl : IntKind.i64.wrap (l.length : Int) = (l.length : Int) := by rw [i64_w]; exact wrap_id (by omega) (by omega)
    refine start_ (n := 13) (S := fun w' => w'.cell? ⟨gx, 0, none⟩ = some (.slice A0 l.length c0)) (ds := []) (bb 13 0) (by kernel_rfl) rfl rfl (by exact (blk_cell BX.o 0).trans rfl) (fun hHeld => ?_)
    generalize hW1 : W.drew = W1 at BX1 HB1 HO1 hHeld ⊢
    refine pk_ 1 29 2 ?_; refine pk_ 2 30 6 ?_; refine pk_ 5 33 38 ?_; refine pk_ 6 34 102 ?_; refine pk_ 7 35 230 ?_; refine tk_ 0 28 231 hHeld ?_; refine tk_ 3 31 239 hHeld ?_; refine pk_ 4 32 255 ?_; refine pk_ 8 36 511 ?_
    refine one_ (i := 9) (N := (some 37)) (bb 13 1023) rfl rfl (by kernel_rfl) (by decide) (fun K hK => ?_)
    rw [hmul]
    refine Kd.R_make_step (Kd.scalar (fun (_ : Unit) => Value.slice none 0 0) (fun _ => rfl)) (w0 := W1) W1.heap.size 114 (by rfl) (N := 37) rfl 158 _ _ rfl (l.length : Int) rfl rfl Tryz.underlying158 (.slice none 0 0) 24 (by kernel_rfl) rfl (by decide) (by omega) () (ok := fun _ => True) (okp := fun _ => True) rfl (fun _ hk => hk) trivial (by omega) (by simp; omega) (Below.refl _ _) (Nat.le_refl _) ?_
    intro v2 w2 ho hb hgr hat
    rw [Int.toNat_natCast] at ho
    obtain ⟨gg, cg, rfl, hgg0, _, cs, hC⟩ := Kd.R_form ho (by simp; omega)
    have hlen0 : (List.replicate l.length ()).length = l.length := by simp
    have hrow : ∀ k, k < l.length → cs[k]? = some (.slice none 0 0) := fun k hk => by have h := (Kd.R_cell () ho (k : Int) (by omega) (by rw [hlen0]; omega)).1; rw [Int.toNat_natCast, blk_cell hC k] at h; exact h
    rw [hlen0] at ho ⊢
    have hcg := (Kd.R_reads' ho).2.1; have HO2 := q_ (Kd.R_below HO1.o hb)
    have HGG2 : J0 (w.heap.size ≤ gg) := ⟨Nat.le_trans HB1.o.size hgg0⟩
    have HB2 := q_ (below_step HB1.o hb); have BX2 := q_ (blk_below BX1.o hb); have HC := q_ hC; have HRW := q_ hrow; have HCG := q_ hcg; have HGG := q_ hgg0
    refine hK.out _ _ (by exact (blk_cell BX2.o 0).trans rfl) (fun hHeld => ?_)
    clear hK K; refine no_ (some 37) ?_; refine pk_ 10 38 2047 ?_
    refine one_ (i := 11) (N := (some 39)) (bb 13 4095) rfl rfl (by kernel_rfl) (by decide) (fun K hK => ?_)
    refine value_ (w1 := ?_) (v := ?_) (by rfl) rfl ?_ ?_
    rotate_left 2
    · go_simp
      constructor
      · rfl
      · rfl
    refine hK.out _ _ (by exact (World.cell?_alloc_lt _ _ _ (World.block_lt_of_cell? _ _ hHeld)).trans hHeld) (fun hHeld => ?_)
    clear hK K; refine no_ (some 39) ?_; refine pk_ 12 8 8191 ?_
    refine done_ (by kernel_rfl) ?_
    have hgm0 : w.heap.size ≤ w2.heap.size := HB2.o.size
    have HM : J0 (Memo w w2.heap.size gg A0 c0 l tx (nullE l) (w2.alloc (.cells #[.slice A0 l.length c0, .string tx, .slice (some ⟨gg, 0, none⟩) l.length cg] 160))) := ⟨⟨cg, cs, blk_new w2 _, HCG.o, hgm0, HGG2.o, blk_alloc HC.o _, fun k hk => ⟨_, HRW.o k hk, .inl rfl⟩⟩⟩
    have HB3 := q_ (below_alloc HB2.o (.cells #[.slice A0 l.length c0, .string tx, .slice (some ⟨gg, 0, none⟩) l.length cg] 160)); have HO3 := q_ (Kd.R_alloc HO2.o (.cells #[.slice A0 l.length c0, .string tx, .slice (some ⟨gg, 0, none⟩) l.length cg] 160)); have BX3 := q_ (blk_alloc BX2.o (.cells #[.slice A0 l.length c0, .string tx, .slice (some ⟨gg, 0, none⟩) l.length cg] 160)); have HC3 := q_ (blk_alloc HC.o (.cells #[.slice A0 l.length c0, .string tx, .slice (some ⟨gg, 0, none⟩) l.length cg] 160)); clear hC hrow hcg hgg0 ho hb hgr hat hHeld HB1 BX1 HO1 HB2 BX2 HO2 HC HRW HCG BX HB HO
    obtain ⟨gm, hgm⟩ : ∃ gm, w2.heap.size = gm := ⟨_, rfl⟩
    generalize hW3 : w2.alloc (.cells #[.slice A0 l.length c0, .string tx, .slice (some ⟨gg, 0, none⟩) l.length cg] 160) = W3 at *
    clear hW3
    simp only [hgm] at HM ⊢
    have hcalls := (ends_all (gm := gm) (gg := gg) (cn := c0) ht (by omega) CN.o hok l.length (l.length - 1) (by omega) (by omega)) W3 HM.o HB3.o
    rw [show ((l.length - 1 : Nat) : Int) = (l.length : Int) - 1 by omega] at hcalls
    have HCS := q_ hcalls
    have hx0 : W3.cell? ⟨gx, 0, none⟩ = some (.slice A0 l.length c0) := (blk_cell BX3.o 0).trans rfl
    have hws : IntKind.i64.wrap ((l.length : Int) - 1) = (l.length : Int) - 1 := by rw [i64_w]; exact wrap_id (by omega) (by omega)
    clear hcalls
    generalize nullE l (l.length - 1) = b at *
    go_wp2_with (go_at_call 113; refine HCS.o.mono ?_; rintro e w5 ⟨v5, rfl, hR5, hM5, hK5, hB5⟩; obtain ⟨g5, c5, rfl, hc5⟩ := Row.form hR5; have HR5 := q_ hR5; have HB5 := q_ hB5; have HO5 := q_ (Kd.R_mono (Kd.R_step (Kd.R_types HO3.o HC3.o (by decide)) (fun k ho hlt => hK5.2 k hlt ho.2)) (ok' := fun _ => True) (fun _ _ => trivial)); clear hR5 hM5 hK5 hB5)
    go_loopg [7, 10] 2 (fun gk_ v7 v10 wr => ∃ (kk : Nat), v10 = .int .i64 (kk : Int) ∧ kk ≤ 1 ∧ 2 - kk ≤ gk_ ∧ J0 (Kd.R (Kd.int .i64) 2 wr w.heap.size (fun _ => True) v7 (if kk = 0 then [] else if b then [0] else [])) ∧ J0 (kk = 0 → Row w wr gg (.slice (some ⟨g5, 0, none⟩) 1 c5) b) ∧ J0 (Below w.heap.size w wr))
    case atStart => exact ⟨0, rfl, by omega, by omega, ⟨by simpa using HO5.o⟩, ⟨fun _ => HR5.o⟩, HB5⟩
    case round =>
      clear HO5 HR5 HB5; obtain ⟨kk, rfl, hkk, hgk, HO, HR, HB⟩ := hrel
      obtain rfl | rfl : kk = 0 ∨ kk = 1 := by omega
      · have hx5 := Row.cell (HR.o rfl)
        replace HO : J0 (Kd.R (Kd.int .i64) 2 wr w.heap.size (fun _ => True) u7 []) := ⟨by simpa using HO.o⟩
        obtain ⟨A7, c7, rfl⟩ := Kd.R_slice HO.o
        rw [show ([] : List Int).length = 0 from rfl] at HO ⊢
        clear HR
        cases b with
        | false =>
          go_wp2_with fail
          go_roundg 1
          case measure => omega
          case rel => exact ⟨1, rfl, by omega, by omega, ⟨by simpa using HO.o⟩, ⟨fun h => absurd h (by omega)⟩, HB⟩
        | true =>
          go_wp2_with ((with_reducible refine gate_builtin (b := .append) (xs := #[.tmp 57, .tmp 59]) rfl ?_); at_builtin; refine Kd.R_append (Kd.int .i64) (w0 := w) w.heap.size rfl (.tmp 57) (.tmp 59) 119 2 (.int .i64 0) 8 rfl Tryz.underlying119 (by kernel_rfl) rfl (by decide) (by omega) (.slice A7 0 c7) ([] : List Int) 0 [.int .i64 0] (fun _ => True) (fun _ => False) rfl rfl ?aP (fun _ hk => hk.elim) (fun _ _ => trivial) HO.o HB.o (below_size HB.o) (by simp) ?_; (case aP => exact rfl); intro v8 w8 ho hb hgr hat; have HO8 := q_ ho; have HB8 := q_ hb; clear ho hb hgr hat)
          go_roundg 1
          case measure => omega
          case rel => exact ⟨1, rfl, by omega, by omega, ⟨by simpa using HO8.o⟩, ⟨fun h => absurd h (by omega)⟩, HB8⟩
      · go_wp2_with fail
        go_ret
        first | exact ⟨_, rfl, by rw [← HRES.o]; simpa using HO.o, HB.o⟩ | (subst hgx; exact ⟨_, rfl, by rw [← HRES.o]; simpa using HO.o, HB.o⟩)
end Go.Proofs.YtijmhelacmjggaaGreat.P
namespace Go.Proofs.YtijmhelacmjggaaGreat.P
open Go.RowKit Go.Proofs.YtijmhelacmjggaaGreatW.PrintWords Go.Proofs.YtijmhelacmjggaaGreatW.PrintLast Go.Proofs.YtijmhelacmjggaaGreatW.PrintMore
attribute [local go_sem] max2_int min2_int max_two min_two max_three min_three max_four min_four
set_option linter.unusedVariables false
set_option linter.unusedSimpArgs false
/-! ### spec_l1Has: function 107 -/
def spec_l1Has.l0 : Nat → List Int → Int → Int → Option (Bool)
 | 0, _, _, _ => none
 | k + 1, x0, x1, x5 => if x5 < (x0.length : Int) then (if 0 ≤ x5 then (if (rd x0 x5) = x1 then (some true) else (spec_l1Has.l0 k x0 x1 (wrap64 (x5 + 1)))) else (none)) else (some false)
def spec_l1Has.f (k : Nat) (l0 : List Int) (a1 : Int) : Option (Bool) := spec_l1Has.l0 k l0 a1 0
theorem spec_l1Has.calls (k : Nat) (A0 : Option Addr) (c0 : Nat) (l0 : List Int) (a1 : Int) (r : Bool) (w : World) (hr0 : Kd.C (Kd.int .i64) w A0 l0.length l0) (hc0 : l0.length ≤ c0) (h : spec_l1Has.f k l0 a1 = some r) :
  Calls Tryz.prog 107 #[.slice A0 l0.length c0, .int .i64 a1] w fun e w' => e = .returned (.bool r) ∧ Drawn0 w w' := by
 have HR0 := q_ hr0; have HC0 := q_ hc0; clear hr0 hc0
 have H : (spec_l1Has.l0 k l0 a1 0) = some r := h
 clear h
 have H' := q_ H
 clear H
 go_enter Tryz.func107, Tryz.ntmps107
 go_wp2
 go_loopg [5] k (fun kq v5 w' => ∃ (x5_1 : Int), v5 = .int .i64 x5_1 ∧ J0 (spec_l1Has.l0 kq l0 a1 x5_1 = some r) ∧ J0 (kq ≤ k) ∧ Drawn0 w w')
 case atStart => exact ⟨(0), rs_, H', ⟨Nat.le_refl _⟩, by repeat (first | exact Drawn0.refl _ | apply Drawn0.step)⟩
 case round =>
  clear H'
  obtain ⟨x5_1, rfl, HA, HK1, ⟨m1, rfl⟩⟩ := hrel
  cases gk with
  | zero => exact absurd HA.o (by simp [spec_l1Has.l0])
  | succ k1 =>
   have H := HA.o; clear HA
   simp only [spec_l1Has.l0] at H
   by_cases c3 : x5_1 < (l0.length : Int)
   ·rw [if_pos c3] at H; have c3b0 := dt_ c3; clear c3
    by_cases c4 : 0 ≤ x5_1
    ·rw [if_pos c4] at H; have c4b0 := dt_ c4; clear c4
     by_cases c5 : (rd l0 x5_1) = a1
     ·rw [if_pos c5] at H
      have c5b0 : ((rd l0 x5_1) == a1) = true := beq_iff_eq.mpr c5
      have c5b1 : ((rd l0 x5_1) != a1) = false := bne_eq_false_iff_eq.mpr c5
      clear c5; obtain rfl := Option.some.inj H
      have p101 : 0 ≤ (x5_1 : Int) := of_decide_eq_true as_
      have q101 : x5_1 < (l0.length : Int) := of_decide_eq_true as_
      obtain ⟨ad101, e101, hx101_0⟩ := Kd.at_int HR0.o x5_1 p101 q101
      cases e101
      replace p101 := eq_true p101; replace q101 := eq_true q101
      go_wp2
      go_ret
      exact ⟨by first | rfl | (simp; done) | (simp [*]; done), by repeat (first | exact Drawn0.refl _ | apply Drawn0.step)⟩
     ·rw [if_neg c5] at H
      have c5b0 : ((rd l0 x5_1) == a1) = false := beq_eq_false_iff_ne.mpr c5
      have c5b1 : ((rd l0 x5_1) != a1) = true := bne_iff_ne.mpr c5
      have H' := q_ H
      clear H
      have p101 : 0 ≤ (x5_1 : Int) := of_decide_eq_true as_
      have q101 : x5_1 < (l0.length : Int) := of_decide_eq_true as_
      obtain ⟨ad101, e101, hx101_0⟩ := Kd.at_int HR0.o x5_1 p101 q101
      cases e101
      replace p101 := eq_true p101; replace q101 := eq_true q101
      go_wp2
      go_roundg k1
      case measure => have := HK1.o; omega
      case rel => exact ⟨(wrap64 (x5_1 + 1)), rs_, H', ⟨by have := HK1.o; omega⟩, by repeat (first | exact Drawn0.refl _ | apply Drawn0.step)⟩
    ·rw [if_neg c4] at H
     exact absurd H (by simp)
   ·rw [if_neg c3] at H; have c3b0 := df_ c3; clear c3; obtain rfl := Option.some.inj H
    go_wp2
    go_ret
    exact ⟨by first | rfl | (simp; done) | (simp [*]; done), by repeat (first | exact Drawn0.refl _ | apply Drawn0.step)⟩
end Go.Proofs.YtijmhelacmjggaaGreat.P
namespace Go.Proofs.YtijmhelacmjggaaGreat.P
open Go.RowKit Go.Shelf Go.Proofs.YtijmhelacmjggaaGreatW.PrintWords Go.Proofs.YtijmhelacmjggaaGreatW.PrintLast Go.Proofs.YtijmhelacmjggaaGreatW.PrintMore Go.Proofs.YtijmhelacmjggaaGreatEv
set_option linter.unusedVariables false
set_option linter.unusedSimpArgs false
theorem has_zero (b : Bool) : ∃ k, spec_l1Has.f k (if b then [0] else []) 0 = some b := by
  refine ⟨4, ?_⟩
  cases b <;> simp [spec_l1Has.f, spec_l1Has.l0, rd]
theorem nullable_hand (A0 : Option Addr) (c0 : Nat) (l : List S121) (w : World) (hn : l.length ≤ 1048576) (hr : Kd.C k121 w A0 l.length l) (hc : l.length ≤ c0) :
    Calls Tryz.prog 91 #[.agg #[.slice A0 l.length c0]] w fun e w' => e = .returned (.bool (rxB l && nullE l (l.length - 1))) ∧ Below w.heap.size w w' := by
  have hkl : ∀ x ∈ l, x.f2.length ≤ 9223372036854775807 := by
    intro x hx
    obtain ⟨i, hi, rfl⟩ := List.getElem_of_mem hx
    obtain ⟨_, _, _, _, _, _, _, _, _, _, _, _, _, _, h⟩ := at_T121 hr (i : Int) (by omega) (by omega)
    have h2 := h.2.1
    have e : rd_T121 l (i : Int) = l[i] := by simp [rd_T121, hi]
    rw [e] at h2
    exact h2
  have HB := q_ (below_alloc (Below.refl w.heap.size w) (.cells #[.slice A0 l.length c0] 58))
  have HC := q_ (endsAt_hand A0 c0 l (w.alloc (.cells #[.slice A0 l.length c0] 58)) hn hkl (Kd.C_below hr HB.o) hc)
  generalize (rxB l && nullE l (l.length - 1)) = b at *
  have HZ := has_zero b
  generalize (if b then [0] else [] : List Int) = lst at *
  obtain ⟨k_, hk_⟩ := HZ
  have HZ := q_ hk_
  clear hkl hr hc hk_
  go_enter Tryz.func91, Tryz.ntmps91
  go_wp2_with (first | (go_at_call 108; refine HC.o.mono ?_; rintro e w1 ⟨v1, rfl, ho, hb⟩; obtain ⟨A1, c1, rfl⟩ := Kd.R_slice ho; have HO := q_ ho; have HB1 := q_ (below_step HB.o hb); clear ho hb) | (go_at_call 107; refine (spec_l1Has.calls k_ A1 c1 lst 0 b _ (Kd.R_reads' HO.o).2.2 (Kd.R_reads' HO.o).2.1 HZ.o).mono ?_; rintro e w2 ⟨rfl, ⟨nd, rfl⟩⟩))
  go_ret
  exact ⟨rfl, by repeat (first | (with_reducible exact HB1.o) | apply pw_below_drewN | apply below_drew1)⟩
end Go.Proofs.YtijmhelacmjggaaGreat.P
namespace Go.Proofs.YtijmhelacmjggaaGreat.P
open Go.RowKit Go.Proofs.YtijmhelacmjggaaGreatW.PrintWords Go.Proofs.YtijmhelacmjggaaGreatW.PrintLast Go.Proofs.YtijmhelacmjggaaGreatW.PrintMore
attribute [local go_sem] max2_int min2_int max_two min_two max_three min_three max_four min_four
set_option linter.unusedVariables false
set_option linter.unusedSimpArgs false
/-! ### spec_Nullable: function 91 -/
def spec_Nullable.f (l0_0 : List (S121)) : Option (Bool) := if l0_0.length ≤ 1048576 then some (rxB l0_0 && nullE l0_0 (l0_0.length - 1)) else none
theorem spec_Nullable.calls (A0_0 : Option Addr) (c0_0 : Nat) (l0_0 : List (S121)) (r : Bool) (w : World) (hr0_0 : Kd.C k121 w A0_0 l0_0.length l0_0) (hc0_0 : l0_0.length ≤ c0_0) (h : spec_Nullable.f l0_0 = some r) :
    Calls Tryz.prog 91 #[.agg #[.slice A0_0 l0_0.length c0_0]] w fun e w' => e = .returned (.bool r) ∧ Below w.heap.size w w' := by
  unfold spec_Nullable.f at h
  by_cases hp : l0_0.length ≤ 1048576
  · rw [if_pos hp] at h
    obtain rfl := Option.some.inj h
    exact nullable_hand A0_0 c0_0 l0_0 w hp hr0_0 hc0_0
  · rw [if_neg hp] at h
    exact absurd h (by simp)
/-! ### spec_l5Rule: function 68 -/
def spec_l5Rule.j0 : Nat → Bool → List (S62) → ByteArray → List (S121) → Bool → Int → ByteArray → Option (Bool)
 | 0, _, _, _, _, _, _, _ => none
 | k + 1, x25, x102000, x103000, x103001, x103002, x103003, x103004 => if x25 = true then (some false) else (if x103003 = 1 then ((spec_ModeAt.f k x102000 x103004).bind fun t107 => (some (decide (t107 ≥ 0)))) else (if x103003 = 2 then ((spec_ModeAt.f k x102000 x103004).bind fun t108 => (some (decide (t108 ≥ 0)))) else (some (x103004.toList == ([] : List UInt8)))))
def spec_l5Rule.f (k : Nat) (l0_0 : List (S62)) (a1_0 : ByteArray) (l1_1 : List (S121)) (a1_2 : Bool) (a1_3 : Int) (a1_4 : ByteArray) : Option (Bool) := (spec_l1Name.f k a1_0).bind fun t103 => (if t103 = true then ((spec_RxOk.f k l1_1).bind fun t104 => (if t104 = true then ((spec_Nullable.f l1_1).bind fun t105 => (if t105 = true then (spec_l5Rule.j0 k true l0_0 a1_0 l1_1 a1_2 a1_3 a1_4) else ((spec_l1In.f a1_3 0 3).bind fun t106 => (spec_l5Rule.j0 k (!t106) l0_0 a1_0 l1_1 a1_2 a1_3 a1_4)))) else (spec_l5Rule.j0 k true l0_0 a1_0 l1_1 a1_2 a1_3 a1_4))) else (spec_l5Rule.j0 k true l0_0 a1_0 l1_1 a1_2 a1_3 a1_4))
theorem spec_l5Rule.calls (k : Nat) (A0_0 : Option Addr) (c0_0 : Nat) (l0_0 : List (S62)) (a1_0 : ByteArray) (A1_1 : Option Addr) (c1_1 : Nat) (l1_1 : List (S121)) (a1_2 : Bool) (a1_3 : Int) (a1_4 : ByteArray) (r : Bool) (w : World) (hr0_0 : Kd.C k62 w A0_0 l0_0.length l0_0) (hc0_0 : l0_0.length ≤ c0_0) (hr1_1 : Kd.C k121 w A1_1 l1_1.length l1_1) (hc1_1 : l1_1.length ≤ c1_1) (h : spec_l5Rule.f k l0_0 a1_0 l1_1 a1_2 a1_3 a1_4 = some r) :
  Calls Tryz.prog 68 #[.agg #[.slice A0_0 l0_0.length c0_0], .agg #[.string a1_0, .slice A1_1 l1_1.length c1_1, .bool a1_2, .int .i64 a1_3, .string a1_4]] w fun e w' => e = .returned (.bool r) ∧ Below w.heap.size w w' := by
 have hu31 := Tryz.underlying31; have hu64 := Tryz.underlying64; have hu58 := Tryz.underlying58; have HR0_0 := q_ hr0_0; have HC0_0 := q_ hc0_0; clear hr0_0 hc0_0; have HR1_1 := q_ hr1_1; have HC1_1 := q_ hc1_1; clear hr1_1 hc1_1; have HB := q_ (Below.refl w.heap.size w)
 have H : ((spec_l1Name.f k a1_0).bind fun t103 => (if t103 = true then ((spec_RxOk.f k l1_1).bind fun t104 => (if t104 = true then ((spec_Nullable.f l1_1).bind fun t105 => (if t105 = true then (spec_l5Rule.j0 k true l0_0 a1_0 l1_1 a1_2 a1_3 a1_4) else ((spec_l1In.f a1_3 0 3).bind fun t106 => (spec_l5Rule.j0 k (!t106) l0_0 a1_0 l1_1 a1_2 a1_3 a1_4)))) else (spec_l5Rule.j0 k true l0_0 a1_0 l1_1 a1_2 a1_3 a1_4))) else (spec_l5Rule.j0 k true l0_0 a1_0 l1_1 a1_2 a1_3 a1_4))) = some r := h
 clear h; have HC3 := q_ H; clear H
 go_enter Tryz.func68, Tryz.ntmps68
 go_upto_region 1 with (first | ((with_reducible refine gate_dst (N := 2) rfl ?_); refine bx_ 2 #[.slice A0_0 l0_0.length c0_0] 31 ?_; intro gb101 hg w4 hbox hb; have BK101 := q_ (hbox); have GE101 := ge_ hg HB; replace HB := sb_ HB hb; clear hb hbox hg) | ((with_reducible refine gate_dst (N := 3) rfl ?_); refine bx_ 3 #[.string a1_0, .slice A1_1 l1_1.length c1_1, .bool a1_2, .int .i64 a1_3, .string a1_4] 64 ?_; intro gb102 hg w5 hbox hb; have BK102 := q_ (hbox); have GE102 := ge1_ hg HB GE101; have NB101_102 := nl_ hg BK101; have NB102_101 := ng_ hg BK101; replace BK101 := lb_ BK101 hb; replace HB := sb1_ HB GE101 hb; clear hb hbox hg))
 (try simp only [Act.put, List.setIfInBounds_toArray, List.set_cons_zero, List.set_cons_succ])
 go_cut [25] (fun v25 wc => ∃ (kq : Nat) (x25_2 : Bool), v25 = .bool x25_2 ∧ J0 (spec_l5Rule.j0 kq x25_2 l0_0 a1_0 l1_1 a1_2 a1_3 a1_4 = some r) ∧ J0 (kq ≤ k) ∧ J0 (wc.heap[gb101]? = some (.cells #[(.slice A0_0 l0_0.length c0_0)] 31 (0, 0))) ∧ J0 (wc.heap[gb102]? = some (.cells #[.string a1_0, (.slice A1_1 l1_1.length c1_1), .bool a1_2, .int .i64 a1_3, .string a1_4] 64 (0, 0))) ∧ J0 (Below w.heap.size w wc))
 case first =>
  have H := HC3.o; clear HC3; obtain ⟨t103, A6, H⟩ := ob_ H
  by_cases c7 : t103 = true
  ·subst c7; rw [if_pos rfl] at H; obtain ⟨t104, A8, H⟩ := ob_ H
   by_cases c9 : t104 = true
   ·subst c9; rw [if_pos rfl] at H; obtain ⟨t105, A10, H⟩ := ob_ H
    by_cases c11 : t105 = true
    ·subst c11; rw [if_pos rfl] at H
     have H' := q_ H
     clear H; have hnb12 := NB102_101.o; have hnc12 := NB101_102.o; obtain ⟨hcz13_0, hcz13_1, hcz13_2, hcz13_3, hcz13_4, hfz13_0, hfz13_1, hfz13_2, hfz13_3, hfz13_4⟩ := d5_ BK102
     go_wp2_with (first | ((with_reducible refine gate_callee (f := 66) rfl ?_); refine gl_ (some 7) rfl rfl Tryz.func66 #[.string a1_0] ?_; (with_reducible refine (spec_l1Name.calls k a1_0 true _ A6.o).mono ?_); rintro e w' ⟨rfl, ⟨nd, rfl⟩⟩; refine ⟨_, rfl, ?_⟩) | (go_at_call 53; (with_reducible refine (spec_RxOk.calls k _ _ l1_1 true _ ?side1 ?side2 A8.o).mono ?_); (case side1 => repeat (first | exact (Kd.C_below HR1_1.o (be2_ HB.o GE101.o GE102.o)) | (with_reducible refine Kd.C_alloc ?_ _) | (with_reducible refine Kd.C_drewN ?_ _) | (with_reducible refine Kd.C_drew ?_))); (case side2 => exact HC1_1.o); rintro e w14 ⟨rfl, hb⟩; replace BK101 := lb_ BK101 hb; replace BK102 := lb_ BK102 hb; replace HB := sb2_ HB GE101 GE102 hb; (try clear hb); obtain ⟨hcz15_0, hcz15_1, hcz15_2, hcz15_3, hcz15_4, hfz15_0, hfz15_1, hfz15_2, hfz15_3, hfz15_4⟩ := d5_ BK102) | (go_at_call 91; (with_reducible refine (spec_Nullable.calls _ _ l1_1 true _ ?side1 ?side2 A10.o).mono ?_); (case side1 => exact Kd.C_below HR1_1.o (be_ HB.o)); (case side2 => exact HC1_1.o); rintro e w16 ⟨rfl, hb⟩; replace BK101 := lb_ BK101 hb; replace BK102 := lb_ BK102 hb; replace HB := sb2_ HB GE101 GE102 hb; (try clear hb)))
     go_meet
     case rel => exact ⟨_, (true), rs_, H', ⟨by first | omega | exact Nat.le_refl _⟩, ⟨bk_ BK101.o⟩, ⟨bk_ BK102.o⟩, ⟨be2_ HB.o GE101.o GE102.o⟩⟩
    ·replace c11 := Bool.eq_false_iff.mpr c11; subst c11; rw [if_neg nft_] at H; obtain ⟨t106, A17, H⟩ := ob_ H
     have H' := q_ H
     clear H; have hnb18 := NB102_101.o; have hnc18 := NB101_102.o; obtain ⟨hcz19_0, hcz19_1, hcz19_2, hcz19_3, hcz19_4, hfz19_0, hfz19_1, hfz19_2, hfz19_3, hfz19_4⟩ := d5_ BK102
     go_wp2_with (first | ((with_reducible refine gate_callee (f := 66) rfl ?_); refine gl_ (some 7) rfl rfl Tryz.func66 #[.string a1_0] ?_; (with_reducible refine (spec_l1Name.calls k a1_0 true _ A6.o).mono ?_); rintro e w' ⟨rfl, ⟨nd, rfl⟩⟩; refine ⟨_, rfl, ?_⟩) | (go_at_call 53; (with_reducible refine (spec_RxOk.calls k _ _ l1_1 true _ ?side1 ?side2 A8.o).mono ?_); (case side1 => repeat (first | exact (Kd.C_below HR1_1.o (be2_ HB.o GE101.o GE102.o)) | (with_reducible refine Kd.C_alloc ?_ _) | (with_reducible refine Kd.C_drewN ?_ _) | (with_reducible refine Kd.C_drew ?_))); (case side2 => exact HC1_1.o); rintro e w20 ⟨rfl, hb⟩; replace BK101 := lb_ BK101 hb; replace BK102 := lb_ BK102 hb; replace HB := sb2_ HB GE101 GE102 hb; (try clear hb); obtain ⟨hcz21_0, hcz21_1, hcz21_2, hcz21_3, hcz21_4, hfz21_0, hfz21_1, hfz21_2, hfz21_3, hfz21_4⟩ := d5_ BK102) | (go_at_call 91; (with_reducible refine (spec_Nullable.calls _ _ l1_1 false _ ?side1 ?side2 A10.o).mono ?_); (case side1 => exact Kd.C_below HR1_1.o (be_ HB.o)); (case side2 => exact HC1_1.o); rintro e w22 ⟨rfl, hb⟩; replace BK101 := lb_ BK101 hb; replace BK102 := lb_ BK102 hb; replace HB := sb2_ HB GE101 GE102 hb; (try clear hb); obtain ⟨hcz23_0, hcz23_1, hcz23_2, hcz23_3, hcz23_4, hfz23_0, hfz23_1, hfz23_2, hfz23_3, hfz23_4⟩ := d5_ BK102) | (go_at_call 51; (with_reducible refine (spec_l1In.calls a1_3 0 3 t106 _ A17.o).mono ?_); rintro e w' ⟨rfl, ⟨nd, rfl⟩⟩))
     go_meet
     case rel => exact ⟨_, (!t106), rs_, H', ⟨by first | omega | exact Nat.le_refl _⟩, ⟨bk_ BK101.o⟩, ⟨bk_ BK102.o⟩, ⟨be2_ HB.o GE101.o GE102.o⟩⟩
   ·replace c9 := Bool.eq_false_iff.mpr c9; subst c9; rw [if_neg nft_] at H
    have H' := q_ H
    clear H; have hnb24 := NB102_101.o; have hnc24 := NB101_102.o; obtain ⟨hcz25_0, hcz25_1, hcz25_2, hcz25_3, hcz25_4, hfz25_0, hfz25_1, hfz25_2, hfz25_3, hfz25_4⟩ := d5_ BK102
    go_wp2_with (first | ((with_reducible refine gate_callee (f := 66) rfl ?_); refine gl_ (some 7) rfl rfl Tryz.func66 #[.string a1_0] ?_; (with_reducible refine (spec_l1Name.calls k a1_0 true _ A6.o).mono ?_); rintro e w' ⟨rfl, ⟨nd, rfl⟩⟩; refine ⟨_, rfl, ?_⟩) | (go_at_call 53; (with_reducible refine (spec_RxOk.calls k _ _ l1_1 false _ ?side1 ?side2 A8.o).mono ?_); (case side1 => repeat (first | exact (Kd.C_below HR1_1.o (be2_ HB.o GE101.o GE102.o)) | (with_reducible refine Kd.C_alloc ?_ _) | (with_reducible refine Kd.C_drewN ?_ _) | (with_reducible refine Kd.C_drew ?_))); (case side2 => exact HC1_1.o); rintro e w26 ⟨rfl, hb⟩; replace BK101 := lb_ BK101 hb; replace BK102 := lb_ BK102 hb; replace HB := sb2_ HB GE101 GE102 hb; (try clear hb)))
    go_meet
    case rel => exact ⟨_, (true), rs_, H', ⟨by first | omega | exact Nat.le_refl _⟩, ⟨bk_ BK101.o⟩, ⟨bk_ BK102.o⟩, ⟨be2_ HB.o GE101.o GE102.o⟩⟩
  ·replace c7 := Bool.eq_false_iff.mpr c7; subst c7; rw [if_neg nft_] at H
   have H' := q_ H
   clear H; have hnb27 := NB102_101.o; have hnc27 := NB101_102.o; obtain ⟨hcz28_0, hcz28_1, hcz28_2, hcz28_3, hcz28_4, hfz28_0, hfz28_1, hfz28_2, hfz28_3, hfz28_4⟩ := d5_ BK102
   go_wp2_with (((with_reducible refine gate_callee (f := 66) rfl ?_); refine gl_ (some 7) rfl rfl Tryz.func66 #[.string a1_0] ?_; (with_reducible refine (spec_l1Name.calls k a1_0 false _ A6.o).mono ?_); rintro e w' ⟨rfl, ⟨nd, rfl⟩⟩; refine ⟨_, rfl, ?_⟩))
   go_meet
   case rel => exact ⟨_, (true), rs_, H', ⟨by first | omega | exact Nat.le_refl _⟩, ⟨bk_ BK101.o⟩, ⟨bk_ BK102.o⟩, ⟨be2_ HB.o GE101.o GE102.o⟩⟩
 case rest =>
  clear HC3; (try clear c7); (try clear c9); (try clear c11); (try clear hcz13_0); (try clear hcz13_1); (try clear hcz13_2); (try clear hcz13_3); (try clear hcz13_4); (try clear hcz15_0); (try clear hcz15_1); (try clear hcz15_2); (try clear hcz15_3); (try clear hcz15_4); (try clear hcz19_0); (try clear hcz19_1); (try clear hcz19_2); (try clear hcz19_3); (try clear hcz19_4); (try clear hcz21_0); (try clear hcz21_1); (try clear hcz21_2); (try clear hcz21_3); (try clear hcz21_4); (try clear hcz23_0); (try clear hcz23_1); (try clear hcz23_2); (try clear hcz23_3); (try clear hcz23_4); (try clear hcz25_0); (try clear hcz25_1); (try clear hcz25_2); (try clear hcz25_3); (try clear hcz25_4); (try clear hcz28_0); (try clear hcz28_1); (try clear hcz28_2); (try clear hcz28_3); (try clear hcz28_4); (try clear hfz13_0); (try clear hfz13_1); (try clear hfz13_2); (try clear hfz13_3); (try clear hfz13_4); (try clear hfz15_0); (try clear hfz15_1); (try clear hfz15_2); (try clear hfz15_3); (try clear hfz15_4); (try clear hfz19_0); (try clear hfz19_1); (try clear hfz19_2); (try clear hfz19_3); (try clear hfz19_4); (try clear hfz21_0); (try clear hfz21_1); (try clear hfz21_2); (try clear hfz21_3); (try clear hfz21_4); (try clear hfz23_0); (try clear hfz23_1); (try clear hfz23_2); (try clear hfz23_3); (try clear hfz23_4); (try clear hfz25_0); (try clear hfz25_1); (try clear hfz25_2); (try clear hfz25_3); (try clear hfz25_4); (try clear hfz28_0); (try clear hfz28_1); (try clear hfz28_2); (try clear hfz28_3); (try clear hfz28_4); obtain ⟨kq, x25_2, rfl, HA, HJ2, BK101, BK102, HB⟩ := hcut
  cases kq with
  | zero => exact absurd HA.o (by simp [spec_l5Rule.j0])
  | succ kj2 =>
   have H := HA.o; clear HA
   simp only [spec_l5Rule.j0] at H
   by_cases c29 : x25_2 = true
   ·subst c29; rw [if_pos rfl] at H; obtain rfl := Option.some.inj H
    go_wp2
    go_ret
    exact ⟨rt_, be2_ HB.o GE101.o GE102.o⟩
   ·replace c29 := Bool.eq_false_iff.mpr c29; subst c29; rw [if_neg nft_] at H
    by_cases c30 : a1_3 = 1
    ·rw [if_pos c30] at H
     have c30b0 : (a1_3 == 1) = true := beq_iff_eq.mpr c30
     have c30b1 : (a1_3 != 1) = false := bne_eq_false_iff_eq.mpr c30
     clear c30; obtain ⟨t107, A31, H⟩ := ob_ H; obtain rfl := Option.some.inj H; have hnb32 := NB102_101.o; have hnc32 := NB101_102.o; obtain ⟨hcz33_0, hcz33_1, hcz33_2, hcz33_3, hcz33_4, hfz33_0, hfz33_1, hfz33_2, hfz33_3, hfz33_4⟩ := d5_ BK102; obtain ⟨hcz34_0, hfz34_0⟩ := d1_ BK101
     go_wp2_with (((with_reducible refine gate_callee (f := 67) rfl ?_); refine gl_ (some 37) rfl rfl Tryz.func67 #[.agg #[.slice A0_0 l0_0.length c0_0], .string a1_4] ?_; (with_reducible refine (spec_ModeAt.calls kj2 _ _ l0_0 a1_4 t107 _ ?side1 ?side2 A31.o).mono ?_); (case side1 => exact Kd.C_below HR0_0.o (be_ HB.o)); (case side2 => exact HC0_0.o); rintro e w35 ⟨rfl, hb⟩; refine ⟨_, rfl, ?_⟩; replace BK101 := lb_ BK101 hb; replace BK102 := lb_ BK102 hb; replace HB := sb2_ HB GE101 GE102 hb; (try clear hb)))
     go_ret
     exact ⟨rt_, be2_ HB.o GE101.o GE102.o⟩
    ·rw [if_neg c30] at H
     have c30b0 : (a1_3 == 1) = false := beq_eq_false_iff_ne.mpr c30
     have c30b1 : (a1_3 != 1) = true := bne_iff_ne.mpr c30
     by_cases c36 : a1_3 = 2
     ·rw [if_pos c36] at H
      have c36b0 : (a1_3 == 2) = true := beq_iff_eq.mpr c36
      have c36b1 : (a1_3 != 2) = false := bne_eq_false_iff_eq.mpr c36
      clear c36; obtain ⟨t108, A37, H⟩ := ob_ H; obtain rfl := Option.some.inj H; have hnb38 := NB102_101.o; have hnc38 := NB101_102.o; obtain ⟨hcz39_0, hcz39_1, hcz39_2, hcz39_3, hcz39_4, hfz39_0, hfz39_1, hfz39_2, hfz39_3, hfz39_4⟩ := d5_ BK102; obtain ⟨hcz40_0, hfz40_0⟩ := d1_ BK101
      go_wp2_with (((with_reducible refine gate_callee (f := 67) rfl ?_); refine gl_ (some 37) rfl rfl Tryz.func67 #[.agg #[.slice A0_0 l0_0.length c0_0], .string a1_4] ?_; (with_reducible refine (spec_ModeAt.calls kj2 _ _ l0_0 a1_4 t108 _ ?side1 ?side2 A37.o).mono ?_); (case side1 => exact Kd.C_below HR0_0.o (be_ HB.o)); (case side2 => exact HC0_0.o); rintro e w41 ⟨rfl, hb⟩; refine ⟨_, rfl, ?_⟩; replace BK101 := lb_ BK101 hb; replace BK102 := lb_ BK102 hb; replace HB := sb2_ HB GE101 GE102 hb; (try clear hb)))
      go_ret
      exact ⟨rt_, be2_ HB.o GE101.o GE102.o⟩
     ·rw [if_neg c36] at H
      have c36b0 : (a1_3 == 2) = false := beq_eq_false_iff_ne.mpr c36
      have c36b1 : (a1_3 != 2) = true := bne_iff_ne.mpr c36
      obtain rfl := Option.some.inj H; have hnb42 := NB102_101.o; have hnc42 := NB101_102.o; obtain ⟨hcz43_0, hcz43_1, hcz43_2, hcz43_3, hcz43_4, hfz43_0, hfz43_1, hfz43_2, hfz43_3, hfz43_4⟩ := d5_ BK102
      go_wp2
      go_ret
      exact ⟨rt_, be2_ HB.o GE101.o GE102.o⟩
/-! ### spec_GrammarOk: function 36 -/
mutual
def spec_GrammarOk.j0 : Nat → Bool → List (S62) → Option (Bool)
 | 0, _, _ => none
 | k + 1, x15, x102000 => if x15 = true then (some false) else (spec_GrammarOk.l0 k 0 x102000)
def spec_GrammarOk.l0 : Nat → Int → List (S62) → Option (Bool)
 | 0, _, _ => none
 | k + 1, x3, x102000 => if x3 < (x102000.length : Int) then (if 0 ≤ x3 then ((spec_l1Name.f k ((rd_T62 x102000 x3).f0)).bind fun t104 => (if t104 = true then ((spec_ModeAt.f k x102000 ((rd_T62 x102000 x3).f0)).bind fun t105 => (if t105 = x3 then (if (((rd_T62 x102000 x3).f1).length : Int) < 1 then (spec_GrammarOk.j2 k x3 true x102000 ((rd_T62 x102000 x3).f0) ((rd_T62 x102000 x3).f1)) else (spec_GrammarOk.j2 k x3 (decide ((((rd_T62 x102000 x3).f1).length : Int) > 40)) x102000 ((rd_T62 x102000 x3).f0) ((rd_T62 x102000 x3).f1))) else (spec_GrammarOk.j2 k x3 true x102000 ((rd_T62 x102000 x3).f0) ((rd_T62 x102000 x3).f1)))) else (spec_GrammarOk.j2 k x3 true x102000 ((rd_T62 x102000 x3).f0) ((rd_T62 x102000 x3).f1)))) else (none)) else (some true)
def spec_GrammarOk.j2 : Nat → Int → Bool → List (S62) → ByteArray → List (S64) → Option (Bool)
 | 0, _, _, _, _, _ => none
 | k + 1, x3, x51, x102000, x104000, x104001 => if x51 = true then (some false) else (spec_GrammarOk.l1 k x3 0 x102000 x104000 x104001)
def spec_GrammarOk.l1 : Nat → Int → Int → List (S62) → ByteArray → List (S64) → Option (Bool)
 | 0, _, _, _, _, _ => none
 | k + 1, x3, x5, x102000, x104000, x104001 => if x5 < (x104001.length : Int) then (if 0 ≤ x5 then ((spec_l5Rule.f k x102000 ((rd_T64 x104001 x5).f0) ((rd_T64 x104001 x5).f1.f0) ((rd_T64 x104001 x5).f2) ((rd_T64 x104001 x5).f3) ((rd_T64 x104001 x5).f4)).bind fun t107 => (if t107 = true then (spec_GrammarOk.l1 k x3 (wrap64 (x5 + 1)) x102000 x104000 x104001) else (some false))) else (none)) else (spec_GrammarOk.l0 k (wrap64 (x3 + 1)) x102000)
end
def spec_GrammarOk.f (k : Nat) (l0_0 : List (S62)) : Option (Bool) := if (l0_0.length : Int) < 1 then (spec_GrammarOk.j0 k true l0_0) else (spec_GrammarOk.j0 k (decide ((l0_0.length : Int) > 12)) l0_0)
def spec_GrammarOk.T12 : Bool × List (List Nat × List Nat) := (true, [([], []), ([], []), ([1], [1]), ([], []), ([2, 3], [2, 3]), ([4], [4]), ([0, 5], [0, 5]), ([6], [6])])
def spec_GrammarOk.B12 : List Nat := [0, 0, 2, 0, 14, 30, 63, 127]
theorem spec_GrammarOk.tab12 : rtab .any (opsOf Tryz.f36 12) = spec_GrammarOk.T12 := by kernel_rfl
theorem spec_GrammarOk.bits12 : waitsOk spec_GrammarOk.T12.2 spec_GrammarOk.B12 = true := by kernel_rfl
theorem spec_GrammarOk.calls (k : Nat) (A0_0 : Option Addr) (c0_0 : Nat) (l0_0 : List (S62)) (r : Bool) (w : World) (hr0_0 : Kd.C k62 w A0_0 l0_0.length l0_0) (hc0_0 : l0_0.length ≤ c0_0) (h : spec_GrammarOk.f k l0_0 = some r) :
  Calls Tryz.prog 36 #[.agg #[.slice A0_0 l0_0.length c0_0]] w fun e w' => e = .returned (.bool r) ∧ Below w.heap.size w w' := by
 have hu31 := Tryz.underlying31; have hu62 := Tryz.underlying62; have hu64 := Tryz.underlying64; have HR0_0 := q_ hr0_0; have HC0_0 := q_ hc0_0; clear hr0_0 hc0_0; have HB := q_ (Below.refl w.heap.size w)
 have H : (if (l0_0.length : Int) < 1 then (spec_GrammarOk.j0 k true l0_0) else (spec_GrammarOk.j0 k (decide ((l0_0.length : Int) > 12)) l0_0)) = some r := h
 clear h; have HC2 := q_ H; clear H
 go_enter Tryz.func36, Tryz.ntmps36
 go_upto_region 1 with (((with_reducible refine gate_dst (N := 1) rfl ?_); (try (refine gate_guard (by rfl) ?_; dsimp only)); refine bx_ 1 #[.slice A0_0 l0_0.length c0_0] 31 ?_; intro gb101 hg w3 hbox hb; have BK101 := q_ (hbox); have GE101 := ge_ hg HB; replace HB := sb_ HB hb; clear hb hbox hg))
 (try simp only [Act.put, List.setIfInBounds_toArray, List.set_cons_zero, List.set_cons_succ])
 go_cut [15] (fun v15 wc => ∃ (kq : Nat) (x15_1 : Bool), v15 = .bool x15_1 ∧ J0 (spec_GrammarOk.j0 kq x15_1 l0_0 = some r) ∧ J0 (kq ≤ k) ∧ J0 (wc.heap[gb101]? = some (.cells #[(.slice A0_0 l0_0.length c0_0)] 31 (0, 0))) ∧ J0 (Below w.heap.size w wc))
 case first =>
  have H := HC2.o; clear HC2
  by_cases c4 : (l0_0.length : Int) < 1
  ·rw [if_pos c4] at H; have c4b0 := dt_ c4
   have c4b1 : decide (l0_0.length < 1) = true := decide_eq_true (by omega)
   clear c4
   (first | rw [c4b0] | (simp only [i64_w, i32_w]; rw [c4b0]) | skip)
   have H' := q_ H
   clear H; obtain ⟨hcz5_0, hfz5_0⟩ := d1_ BK101
   go_wp2
   go_meet
   case rel => exact ⟨_, (true), rs_, H', ⟨by first | omega | exact Nat.le_refl _⟩, ⟨bk_ BK101.o⟩, ⟨be1_ HB.o GE101.o⟩⟩
  ·rw [if_neg c4] at H; have c4b0 := df_ c4
   have c4b1 : decide (l0_0.length < 1) = false := decide_eq_false (by omega)
   clear c4
   (first | rw [c4b0] | (simp only [i64_w, i32_w]; rw [c4b0]) | skip)
   have H' := q_ H
   clear H; obtain ⟨hcz6_0, hfz6_0⟩ := d1_ BK101
   go_wp2
   go_meet
   case rel => exact ⟨_, (decide ((l0_0.length : Int) > 12)), rs_, H', ⟨by first | omega | exact Nat.le_refl _⟩, ⟨bk_ BK101.o⟩, ⟨be1_ HB.o GE101.o⟩⟩
 case rest =>
  clear HC2; (try clear c4); (try clear c4b0); (try clear c4b1); (try clear hcz5_0); (try clear hcz6_0); (try clear hfz5_0); (try clear hfz6_0); obtain ⟨kq, x15_1, rfl, HA, HJ1, BK101, HB⟩ := hcut
  cases kq with
  | zero => exact absurd HA.o (by simp [spec_GrammarOk.j0])
  | succ kj1 =>
   have H := HA.o; clear HA
   simp only [spec_GrammarOk.j0] at H
   by_cases c7 : x15_1 = true
   ·subst c7; rw [if_pos rfl] at H; obtain rfl := Option.some.inj H
    go_wp2
    go_ret
    exact ⟨rt_, be1_ HB.o GE101.o⟩
   ·replace c7 := Bool.eq_false_iff.mpr c7; subst c7; rw [if_neg nft_] at H
    have H' := q_ H
    clear H
    go_wp2
    go_loopg [3] kj1 (fun kq v3 w' => ∃ (x3_2 : Int), v3 = .int .i64 x3_2 ∧ J0 (spec_GrammarOk.l0 kq x3_2 l0_0 = some r) ∧ J0 (kq ≤ kj1) ∧ J0 (w'.heap[gb101]? = some (.cells #[(.slice A0_0 l0_0.length c0_0)] 31 (0, 0))) ∧ J0 (Below w.heap.size w w'))
    case atStart => exact ⟨(0), rs_, H', ⟨Nat.le_refl _⟩, ⟨bk_ BK101.o⟩, ⟨be1_ HB.o GE101.o⟩⟩
    case round =>
     clear H'; (try clear c4); (try clear c4b0); (try clear c4b1); (try clear c7); (try clear hcz5_0); (try clear hcz6_0); (try clear hfz5_0); (try clear hfz6_0); obtain ⟨x3_2, rfl, HA, HK2, BK101, HB⟩ := hrel
     cases gk with
     | zero => exact absurd HA.o (by simp [spec_GrammarOk.l0])
     | succ k2 =>
      have H := HA.o; clear HA
      simp only [spec_GrammarOk.l0] at H
      by_cases c8 : x3_2 < (l0_0.length : Int)
      ·rw [if_pos c8] at H; have c8b0 := dt_ c8; clear c8
       by_cases c9 : 0 ≤ x3_2
       ·rw [if_pos c9] at H; have c9b0 := dt_ c9; clear c9; have HC10 := q_ H; clear H; obtain ⟨hcz11_0, hfz11_0⟩ := d1_ BK101
        have p102 : 0 ≤ (x3_2 : Int) := of_decide_eq_true as_
        have q102 : x3_2 < (l0_0.length : Int) := of_decide_eq_true as_
        obtain ⟨ad102, A102_1, c102_1, e102, hx102_0, hx102_1, hl102_1, hi102_1⟩ := at_T62 HR0_0.o x3_2 p102 q102
        cases e102
        replace hx102_0 := mv_ HB.o hx102_0; replace hx102_1 := mv_ HB.o hx102_1; have HR102_1 := q_ hi102_1; have HC102_1 := q_ hl102_1; clear hi102_1 hl102_1; replace p102 := eq_true p102; replace q102 := eq_true q102
        go_upto_region 7 with (((with_reducible refine gate_dst (N := 4) rfl ?_); (try (refine gate_guard (by rfl) ?_; dsimp only)); refine bx_ 4 #[.string (⟨#[]⟩ : ByteArray), .slice none 0 0] 62 ?_; intro gb103 hg w12 hbox hb; have BK103 := q_ (hbox); have GE103 := ge1_ hg HB GE101; have NB101_103 := nl_ hg BK101; have NB103_101 := ng_ hg BK101; replace BK101 := lb_ BK101 hb; replace HB := sb1_ HB GE101 hb; clear hb hbox hg; have hnb13 := NB103_101.o; have hnc13 := NB101_103.o; obtain ⟨hcz14_0, hcz14_1, hfz14_0, hfz14_1⟩ := d2_ BK103))
        (try simp only [Act.put, List.setIfInBounds_toArray, List.set_cons_zero, List.set_cons_succ])
        go_cut [51] (fun v51 wc => ∃ (kq : Nat) (x51_9 : Bool), v51 = .bool x51_9 ∧ J0 (spec_GrammarOk.j2 kq x3_2 x51_9 l0_0 ((rd_T62 l0_0 x3_2).f0) ((rd_T62 l0_0 x3_2).f1) = some r) ∧ J0 (kq ≤ k2) ∧ J0 (wc.heap[gb101]? = some (.cells #[(.slice (some ad102) l0_0.length c0_0)] 31 (0, 0))) ∧ J0 (wc.heap[gb103]? = some (.cells #[.string ((rd_T62 l0_0 x3_2).f0), (.slice A102_1 ((rd_T62 l0_0 x3_2).f1).length c102_1)] 62 (0, 0))) ∧ J0 (Below w.heap.size w wc))
        case first =>
         have H := HC10.o; clear HC10; obtain ⟨t104, A15, H⟩ := ob_ H
         by_cases c16 : t104 = true
         ·subst c16; rw [if_pos rfl] at H; obtain ⟨t105, A17, H⟩ := ob_ H
          by_cases c18 : t105 = x3_2
          ·rw [if_pos c18] at H
           have c18b0 : (t105 == x3_2) = true := beq_iff_eq.mpr c18
           have c18b1 : (t105 != x3_2) = false := bne_eq_false_iff_eq.mpr c18
           clear c18
           (first | rw [c18b0] | (simp only [i64_w, i32_w]; rw [c18b0]) | skip)
           by_cases c19 : (((rd_T62 l0_0 x3_2).f1).length : Int) < 1
           ·rw [if_pos c19] at H; have c19b0 := dt_ c19
            have c19b1 : decide (((rd_T62 l0_0 x3_2).f1).length < 1) = true := decide_eq_true (by omega)
            clear c19
            have H' := q_ H
            clear H; have hnb20 := NB103_101.o; have hnc20 := NB101_103.o; obtain ⟨hcz21_0, hcz21_1, hfz21_0, hfz21_1⟩ := d2_ BK103
            go_wp2_with (first | ((with_reducible refine gate_callee (f := 66) rfl ?_); refine gl_ (some 30) rfl rfl Tryz.func66 #[.string ((rd_T62 l0_0 x3_2).f0)] ?_; (with_reducible refine (spec_l1Name.calls k2 ((rd_T62 l0_0 x3_2).f0) true _ A15.o).mono ?_); rintro e w' ⟨rfl, ⟨nd, rfl⟩⟩; refine ⟨_, rfl, ?_⟩; obtain ⟨hcz22_0, hfz22_0⟩ := d1_ BK101) | (go_at_call 67; (with_reducible refine (spec_ModeAt.calls k2 _ _ l0_0 ((rd_T62 l0_0 x3_2).f0) t105 _ ?side1 ?side2 A17.o).mono ?_); (case side1 => exact Kd.C_below HR0_0.o (be2_ HB.o GE101.o GE103.o)); (case side2 => exact HC0_0.o); rintro e w23 ⟨rfl, hb⟩; replace BK101 := q_ (blk_below (g := gb101) (o := .cells #[.slice (some ad102) l0_0.length c0_0] 31 (0, 0)) (by (with_reducible repeat (first | refine blk_drewN ?_ _ | refine blk_drew ?_ | refine blk_alloc ?_ _)); refine blk_far ?_ NB101_103.o _; (with_reducible repeat (first | refine blk_drewN ?_ _ | refine blk_drew ?_ | refine blk_alloc ?_ _)); refine blk_far ?_ NB101_103.o _; (with_reducible repeat (first | refine blk_drewN ?_ _ | refine blk_drew ?_ | refine blk_alloc ?_ _)); exact BK101.o) hb); replace BK103 := q_ (blk_below (g := gb103) (o := .cells #[.string ((rd_T62 l0_0 x3_2).f0), .slice A102_1 ((rd_T62 l0_0 x3_2).f1).length c102_1] 62 (0, 0)) (by (with_reducible repeat (first | refine blk_drewN ?_ _ | refine blk_drew ?_ | refine blk_alloc ?_ _)); refine blk_put (cs := #[.string ((rd_T62 l0_0 x3_2).f0), .slice none 0 0]) ?_ 1 _ rfl; (with_reducible repeat (first | refine blk_drewN ?_ _ | refine blk_drew ?_ | refine blk_alloc ?_ _)); refine blk_put (cs := #[.string (⟨#[]⟩ : ByteArray), .slice none 0 0]) ?_ 0 _ rfl; (with_reducible repeat (first | refine blk_drewN ?_ _ | refine blk_drew ?_ | refine blk_alloc ?_ _)); exact BK103.o) hb); replace HB := sb2_ HB GE101 GE103 hb; (try clear hb); obtain ⟨hcz24_0, hcz24_1, hfz24_0, hfz24_1⟩ := d2_ BK103))
            go_meet
            case rel => exact ⟨_, (true), rs_, H', ⟨by have := HJ1.o; have := HK2.o; first | omega | exact Nat.le_refl _⟩, ⟨bk_ BK101.o⟩, ⟨bk_ BK103.o⟩, ⟨be2_ HB.o GE101.o GE103.o⟩⟩
           ·rw [if_neg c19] at H; have c19b0 := df_ c19
            have c19b1 : decide (((rd_T62 l0_0 x3_2).f1).length < 1) = false := decide_eq_false (by omega)
            clear c19
            have H' := q_ H
            clear H; have hnb25 := NB103_101.o; have hnc25 := NB101_103.o; obtain ⟨hcz26_0, hcz26_1, hfz26_0, hfz26_1⟩ := d2_ BK103
            go_wp2_with (first | ((with_reducible refine gate_callee (f := 66) rfl ?_); refine gl_ (some 30) rfl rfl Tryz.func66 #[.string ((rd_T62 l0_0 x3_2).f0)] ?_; (with_reducible refine (spec_l1Name.calls k2 ((rd_T62 l0_0 x3_2).f0) true _ A15.o).mono ?_); rintro e w' ⟨rfl, ⟨nd, rfl⟩⟩; refine ⟨_, rfl, ?_⟩; obtain ⟨hcz27_0, hfz27_0⟩ := d1_ BK101) | (go_at_call 67; (with_reducible refine (spec_ModeAt.calls k2 _ _ l0_0 ((rd_T62 l0_0 x3_2).f0) t105 _ ?side1 ?side2 A17.o).mono ?_); (case side1 => exact Kd.C_below HR0_0.o (be2_ HB.o GE101.o GE103.o)); (case side2 => exact HC0_0.o); rintro e w28 ⟨rfl, hb⟩; replace BK101 := q_ (blk_below (g := gb101) (o := .cells #[.slice (some ad102) l0_0.length c0_0] 31 (0, 0)) (by (with_reducible repeat (first | refine blk_drewN ?_ _ | refine blk_drew ?_ | refine blk_alloc ?_ _)); refine blk_far ?_ NB101_103.o _; (with_reducible repeat (first | refine blk_drewN ?_ _ | refine blk_drew ?_ | refine blk_alloc ?_ _)); refine blk_far ?_ NB101_103.o _; (with_reducible repeat (first | refine blk_drewN ?_ _ | refine blk_drew ?_ | refine blk_alloc ?_ _)); exact BK101.o) hb); replace BK103 := q_ (blk_below (g := gb103) (o := .cells #[.string ((rd_T62 l0_0 x3_2).f0), .slice A102_1 ((rd_T62 l0_0 x3_2).f1).length c102_1] 62 (0, 0)) (by (with_reducible repeat (first | refine blk_drewN ?_ _ | refine blk_drew ?_ | refine blk_alloc ?_ _)); refine blk_put (cs := #[.string ((rd_T62 l0_0 x3_2).f0), .slice none 0 0]) ?_ 1 _ rfl; (with_reducible repeat (first | refine blk_drewN ?_ _ | refine blk_drew ?_ | refine blk_alloc ?_ _)); refine blk_put (cs := #[.string (⟨#[]⟩ : ByteArray), .slice none 0 0]) ?_ 0 _ rfl; (with_reducible repeat (first | refine blk_drewN ?_ _ | refine blk_drew ?_ | refine blk_alloc ?_ _)); exact BK103.o) hb); replace HB := sb2_ HB GE101 GE103 hb; (try clear hb); obtain ⟨hcz29_0, hcz29_1, hfz29_0, hfz29_1⟩ := d2_ BK103))
            go_meet
            case rel => exact ⟨_, (decide ((((rd_T62 l0_0 x3_2).f1).length : Int) > 40)), rs_, H', ⟨by have := HJ1.o; have := HK2.o; first | omega | exact Nat.le_refl _⟩, ⟨bk_ BK101.o⟩, ⟨bk_ BK103.o⟩, ⟨be2_ HB.o GE101.o GE103.o⟩⟩
          ·rw [if_neg c18] at H
           have c18b0 : (t105 == x3_2) = false := beq_eq_false_iff_ne.mpr c18
           have c18b1 : (t105 != x3_2) = true := bne_iff_ne.mpr c18
           (first | rw [c18b0] | (simp only [i64_w, i32_w]; rw [c18b0]) | skip)
           have H' := q_ H
           clear H; have hnb30 := NB103_101.o; have hnc30 := NB101_103.o; obtain ⟨hcz31_0, hcz31_1, hfz31_0, hfz31_1⟩ := d2_ BK103
           go_wp2_with (first | ((with_reducible refine gate_callee (f := 66) rfl ?_); refine gl_ (some 30) rfl rfl Tryz.func66 #[.string ((rd_T62 l0_0 x3_2).f0)] ?_; (with_reducible refine (spec_l1Name.calls k2 ((rd_T62 l0_0 x3_2).f0) true _ A15.o).mono ?_); rintro e w' ⟨rfl, ⟨nd, rfl⟩⟩; refine ⟨_, rfl, ?_⟩; obtain ⟨hcz32_0, hfz32_0⟩ := d1_ BK101) | (go_at_call 67; (with_reducible refine (spec_ModeAt.calls k2 _ _ l0_0 ((rd_T62 l0_0 x3_2).f0) t105 _ ?side1 ?side2 A17.o).mono ?_); (case side1 => exact Kd.C_below HR0_0.o (be2_ HB.o GE101.o GE103.o)); (case side2 => exact HC0_0.o); rintro e w33 ⟨rfl, hb⟩; replace BK101 := q_ (blk_below (g := gb101) (o := .cells #[.slice (some ad102) l0_0.length c0_0] 31 (0, 0)) (by (with_reducible repeat (first | refine blk_drewN ?_ _ | refine blk_drew ?_ | refine blk_alloc ?_ _)); refine blk_far ?_ NB101_103.o _; (with_reducible repeat (first | refine blk_drewN ?_ _ | refine blk_drew ?_ | refine blk_alloc ?_ _)); refine blk_far ?_ NB101_103.o _; (with_reducible repeat (first | refine blk_drewN ?_ _ | refine blk_drew ?_ | refine blk_alloc ?_ _)); exact BK101.o) hb); replace BK103 := q_ (blk_below (g := gb103) (o := .cells #[.string ((rd_T62 l0_0 x3_2).f0), .slice A102_1 ((rd_T62 l0_0 x3_2).f1).length c102_1] 62 (0, 0)) (by (with_reducible repeat (first | refine blk_drewN ?_ _ | refine blk_drew ?_ | refine blk_alloc ?_ _)); refine blk_put (cs := #[.string ((rd_T62 l0_0 x3_2).f0), .slice none 0 0]) ?_ 1 _ rfl; (with_reducible repeat (first | refine blk_drewN ?_ _ | refine blk_drew ?_ | refine blk_alloc ?_ _)); refine blk_put (cs := #[.string (⟨#[]⟩ : ByteArray), .slice none 0 0]) ?_ 0 _ rfl; (with_reducible repeat (first | refine blk_drewN ?_ _ | refine blk_drew ?_ | refine blk_alloc ?_ _)); exact BK103.o) hb); replace HB := sb2_ HB GE101 GE103 hb; (try clear hb)))
           go_meet
           case rel => exact ⟨_, (true), rs_, H', ⟨by have := HJ1.o; have := HK2.o; first | omega | exact Nat.le_refl _⟩, ⟨bk_ BK101.o⟩, ⟨bk_ BK103.o⟩, ⟨be2_ HB.o GE101.o GE103.o⟩⟩
         ·replace c16 := Bool.eq_false_iff.mpr c16; subst c16; rw [if_neg nft_] at H
          have H' := q_ H
          clear H; have hnb34 := NB103_101.o; have hnc34 := NB101_103.o; obtain ⟨hcz35_0, hcz35_1, hfz35_0, hfz35_1⟩ := d2_ BK103
          go_wp2_with (((with_reducible refine gate_callee (f := 66) rfl ?_); refine gl_ (some 30) rfl rfl Tryz.func66 #[.string ((rd_T62 l0_0 x3_2).f0)] ?_; (with_reducible refine (spec_l1Name.calls k2 ((rd_T62 l0_0 x3_2).f0) false _ A15.o).mono ?_); rintro e w' ⟨rfl, ⟨nd, rfl⟩⟩; refine ⟨_, rfl, ?_⟩))
          go_meet
          case rel => exact ⟨_, (true), rs_, H', ⟨by have := HJ1.o; have := HK2.o; first | omega | exact Nat.le_refl _⟩, ⟨by (with_reducible repeat (first | refine blk_drewN ?_ _ | refine blk_drew ?_ | refine blk_alloc ?_ _)); refine blk_far ?_ NB101_103.o _; (with_reducible repeat (first | refine blk_drewN ?_ _ | refine blk_drew ?_ | refine blk_alloc ?_ _)); refine blk_far ?_ NB101_103.o _; (with_reducible repeat (first | refine blk_drewN ?_ _ | refine blk_drew ?_ | refine blk_alloc ?_ _)); exact BK101.o⟩, ⟨by (with_reducible repeat (first | refine blk_drewN ?_ _ | refine blk_drew ?_ | refine blk_alloc ?_ _)); refine blk_put (cs := #[.string ((rd_T62 l0_0 x3_2).f0), .slice none 0 0]) ?_ 1 _ rfl; (with_reducible repeat (first | refine blk_drewN ?_ _ | refine blk_drew ?_ | refine blk_alloc ?_ _)); refine blk_put (cs := #[.string (⟨#[]⟩ : ByteArray), .slice none 0 0]) ?_ 0 _ rfl; (with_reducible repeat (first | refine blk_drewN ?_ _ | refine blk_drew ?_ | refine blk_alloc ?_ _)); exact BK103.o⟩, ⟨be2_ HB.o GE101.o GE103.o⟩⟩
        case rest =>
         clear HC10; (try clear c4); (try clear c4b0); (try clear c4b1); (try clear c7); (try clear c8); (try clear c8b0); (try clear c9); (try clear c9b0); (try clear c16); (try clear c18); (try clear c18b0); (try clear c18b1); (try clear c19); (try clear c19b0); (try clear c19b1); (try clear hcz11_0); (try clear hcz14_0); (try clear hcz14_1); (try clear hcz21_0); (try clear hcz21_1); (try clear hcz22_0); (try clear hcz24_0); (try clear hcz24_1); (try clear hcz26_0); (try clear hcz26_1); (try clear hcz27_0); (try clear hcz29_0); (try clear hcz29_1); (try clear hcz31_0); (try clear hcz31_1); (try clear hcz32_0); (try clear hcz35_0); (try clear hcz35_1); (try clear hcz5_0); (try clear hcz6_0); (try clear hfz11_0); (try clear hfz14_0); (try clear hfz14_1); (try clear hfz21_0); (try clear hfz21_1); (try clear hfz22_0); (try clear hfz24_0); (try clear hfz24_1); (try clear hfz26_0); (try clear hfz26_1); (try clear hfz27_0); (try clear hfz29_0); (try clear hfz29_1); (try clear hfz31_0); (try clear hfz31_1); (try clear hfz32_0); (try clear hfz35_0); (try clear hfz35_1); (try clear hfz5_0); (try clear hfz6_0); (try clear hx102_0); (try clear hx102_1); (try clear p102); (try clear q102); obtain ⟨kq, x51_9, rfl, HA, HJ9, BK101, BK103, HB⟩ := hcut
         cases kq with
         | zero => exact absurd HA.o (by simp [spec_GrammarOk.j2])
         | succ kj9 =>
          have H := HA.o; clear HA
          simp only [spec_GrammarOk.j2] at H
          by_cases c36 : x51_9 = true
          ·subst c36; rw [if_pos rfl] at H; obtain rfl := Option.some.inj H
           go_wp2
           go_ret
           exact ⟨rt_, be2_ HB.o GE101.o GE103.o⟩
          ·replace c36 := Bool.eq_false_iff.mpr c36; subst c36; rw [if_neg nft_] at H
           have H' := q_ H
           clear H
           go_wp2
           go_loopg [5] kj9 (fun kq v5 w' => ∃ (x5_4 : Int), v5 = .int .i64 x5_4 ∧ J0 (spec_GrammarOk.l1 kq x3_2 x5_4 l0_0 ((rd_T62 l0_0 x3_2).f0) ((rd_T62 l0_0 x3_2).f1) = some r) ∧ J0 (kq ≤ kj9) ∧ J0 (w'.heap[gb101]? = some (.cells #[(.slice (some ad102) l0_0.length c0_0)] 31 (0, 0))) ∧ J0 (w'.heap[gb103]? = some (.cells #[.string ((rd_T62 l0_0 x3_2).f0), (.slice A102_1 ((rd_T62 l0_0 x3_2).f1).length c102_1)] 62 (0, 0))) ∧ J0 (Below w.heap.size w w'))
           case atStart => exact ⟨(0), rs_, H', ⟨Nat.le_refl _⟩, ⟨bk_ BK101.o⟩, ⟨bk_ BK103.o⟩, ⟨be2_ HB.o GE101.o GE103.o⟩⟩
           case round =>
            clear H'; (try clear c4); (try clear c4b0); (try clear c4b1); (try clear c7); (try clear c8); (try clear c8b0); (try clear c9); (try clear c9b0); (try clear c16); (try clear c18); (try clear c18b0); (try clear c18b1); (try clear c19); (try clear c19b0); (try clear c19b1); (try clear c36); (try clear hcz11_0); (try clear hcz14_0); (try clear hcz14_1); (try clear hcz21_0); (try clear hcz21_1); (try clear hcz22_0); (try clear hcz24_0); (try clear hcz24_1); (try clear hcz26_0); (try clear hcz26_1); (try clear hcz27_0); (try clear hcz29_0); (try clear hcz29_1); (try clear hcz31_0); (try clear hcz31_1); (try clear hcz32_0); (try clear hcz35_0); (try clear hcz35_1); (try clear hcz5_0); (try clear hcz6_0); (try clear hfz11_0); (try clear hfz14_0); (try clear hfz14_1); (try clear hfz21_0); (try clear hfz21_1); (try clear hfz22_0); (try clear hfz24_0); (try clear hfz24_1); (try clear hfz26_0); (try clear hfz26_1); (try clear hfz27_0); (try clear hfz29_0); (try clear hfz29_1); (try clear hfz31_0); (try clear hfz31_1); (try clear hfz32_0); (try clear hfz35_0); (try clear hfz35_1); (try clear hfz5_0); (try clear hfz6_0); (try clear hx102_0); (try clear hx102_1); (try clear p102); (try clear q102); obtain ⟨x5_4, rfl, HA, HK4, BK101, BK103, HB⟩ := hrel
            cases gk with
            | zero => exact absurd HA.o (by simp [spec_GrammarOk.l1])
            | succ k4 =>
             have H := HA.o; clear HA
             simp only [spec_GrammarOk.l1] at H
             by_cases c37 : x5_4 < (((rd_T62 l0_0 x3_2).f1).length : Int)
             ·rw [if_pos c37] at H; have c37b0 := dt_ c37; clear c37
              by_cases c38 : 0 ≤ x5_4
              ·rw [if_pos c38] at H; have c38b0 := dt_ c38; clear c38; obtain ⟨t107, A39, H⟩ := ob_ H
               by_cases c40 : t107 = true
               ·subst c40; rw [if_pos rfl] at H
                have H' := q_ H
                clear H; have hnb41 := NB103_101.o; have hnc41 := NB101_103.o; obtain ⟨hcz42_0, hcz42_1, hfz42_0, hfz42_1⟩ := d2_ BK103
                try go_wp2
                replace BK101 := q_ (blk_drew BK101.o); replace BK103 := q_ (blk_drew BK103.o); replace HB := q_ (below_drew1 HB.o)
                have p106 : 0 ≤ (x5_4 : Int) := of_decide_eq_true as_
                have q106 : x5_4 < (((rd_T62 l0_0 x3_2).f1).length : Int) := of_decide_eq_true as_
                obtain ⟨ad106, A106_1, c106_1, e106, hx106_0, hx106_1, hx106_2, hx106_3, hx106_4, hl106_1, hi106_1⟩ := at_T64 HR102_1.o x5_4 p106 q106; have hw106_4 := hx106_4; have hw106_3 := hx106_3; have hw106_2 := hx106_2; have hw106_1 := hx106_1; have hw106_0 := hx106_0
                cases e106
                replace hx106_0 := mv_ HB.o hx106_0; replace hx106_1 := mv_ HB.o hx106_1; replace hx106_2 := mv_ HB.o hx106_2; replace hx106_3 := mv_ HB.o hx106_3; replace hx106_4 := mv_ HB.o hx106_4; have HR106_1 := q_ hi106_1; have HC106_1 := q_ hl106_1; clear hi106_1 hl106_1; replace p106 := eq_true p106; replace q106 := eq_true q106
                refine start_ (n := 8) (S := fun w' => w'.cell? ⟨gb101, 0, none⟩ = some (.slice (some ad102) l0_0.length c0_0) ∧ w'.cell? ⟨gb103, 0, none⟩ = some (.string ((rd_T62 l0_0 x3_2).f0)) ∧ w'.cell? ⟨gb103, 1, none⟩ = some (.slice (some ad106) ((rd_T62 l0_0 x3_2).f1).length c102_1) ∧ w'.cell? (ad106.add ((x5_4).toNat * 5)) = some (.string ((rd_T64 ((rd_T62 l0_0 x3_2).f1) x5_4).f0)) ∧ w'.cell? ⟨(ad106.add ((x5_4).toNat * 5)).block, (ad106.add ((x5_4).toNat * 5)).off + 1, none⟩ = some (.slice A106_1 ((rd_T64 ((rd_T62 l0_0 x3_2).f1) x5_4).f1.f0).length c106_1) ∧ w'.cell? ⟨(ad106.add ((x5_4).toNat * 5)).block, (ad106.add ((x5_4).toNat * 5)).off + 2, none⟩ = some (.bool ((rd_T64 ((rd_T62 l0_0 x3_2).f1) x5_4).f2)) ∧ w'.cell? ⟨(ad106.add ((x5_4).toNat * 5)).block, (ad106.add ((x5_4).toNat * 5)).off + 3, none⟩ = some (.int .i64 ((rd_T64 ((rd_T62 l0_0 x3_2).f1) x5_4).f3)) ∧ w'.cell? ⟨(ad106.add ((x5_4).toNat * 5)).block, (ad106.add ((x5_4).toNat * 5)).off + 4, none⟩ = some (.string ((rd_T64 ((rd_T62 l0_0 x3_2).f1) x5_4).f4))) (ds := []) (bb 8 0) (by kernel_rfl) rfl rfl ⟨(blk_cell BK101.o 0).trans rfl, (blk_cell BK103.o 0).trans rfl, (blk_cell BK103.o 1).trans rfl, (mv_ HB.o hw106_0), (mv_ HB.o hw106_1), (mv_ HB.o hw106_2), (mv_ HB.o hw106_3), (mv_ HB.o hw106_4)⟩ (fun hHeld => ?_); refine with_tabW spec_GrammarOk.tab12 spec_GrammarOk.bits12 (fun HT_ HW_ => ?_)
                generalize wr.drew = w43 at BK101 BK103 HB HR106_1 hx106_0 hx106_1 hx106_2 hx106_3 hx106_4 hHeld ⊢
                refine pv_ 1 60 2 HT_.o ?_; refine pv_ 3 62 10 HT_.o ?_; refine tv_ 0 59 11 HT_.o HW_.o hHeld ?_; refine tv_ 2 61 15 HT_.o HW_.o hHeld ?_; refine pv_ 4 63 31 HT_.o ?_; refine tv_ 5 64 63 HT_.o HW_.o hHeld ?_
                refine one_ (i := 6) (N := some 65) (bb 8 127) rfl rfl (one_of HT_.o (by kernel_rfl)) (by decide) (fun K hK => ?_)
                refine gs_ Tryz.func68 #[.agg #[.slice (some ad102) l0_0.length c0_0], .agg #[.string ((rd_T64 ((rd_T62 l0_0 x3_2).f1) x5_4).f0), .slice A106_1 ((rd_T64 ((rd_T62 l0_0 x3_2).f1) x5_4).f1.f0).length c106_1, .bool ((rd_T64 ((rd_T62 l0_0 x3_2).f1) x5_4).f2), .int .i64 ((rd_T64 ((rd_T62 l0_0 x3_2).f1) x5_4).f3), .string ((rd_T64 ((rd_T62 l0_0 x3_2).f1) x5_4).f4)]] ?_
                with_reducible refine (spec_l5Rule.calls k4 _ _ l0_0 ((rd_T64 ((rd_T62 l0_0 x3_2).f1) x5_4).f0) _ _ ((rd_T64 ((rd_T62 l0_0 x3_2).f1) x5_4).f1.f0) ((rd_T64 ((rd_T62 l0_0 x3_2).f1) x5_4).f2) ((rd_T64 ((rd_T62 l0_0 x3_2).f1) x5_4).f3) ((rd_T64 ((rd_T62 l0_0 x3_2).f1) x5_4).f4) true _ ?side1 ?side2 ?side3 ?side4 A39.o).mono ?_
                (case side1 => exact Kd.C_below HR0_0.o (be_ HB.o))
                (case side2 => exact HC0_0.o)
                (case side3 => exact Kd.C_below HR106_1.o (be_ HB.o))
                (case side4 => exact HC106_1.o)
                rintro e w44 ⟨rfl, hb⟩
                refine ⟨_, rfl, ?_⟩; replace BK101 := lb_ BK101 hb; replace BK103 := lb_ BK103 hb; replace HB := sb2_ HB GE101 GE103 hb
                (try clear hb)
                (try clear hb2)
                (try clear hk)
                (try clear hi)
                refine hK.out _ _ ⟨(blk_cell BK101.o 0).trans rfl, (blk_cell BK103.o 0).trans rfl, (blk_cell BK103.o 1).trans rfl, (mv_ HB.o hw106_0), (mv_ HB.o hw106_1), (mv_ HB.o hw106_2), (mv_ HB.o hw106_3), (mv_ HB.o hw106_4)⟩ (fun hHeld => ?_)
                clear hK K; refine no_ (some 65) ?_; refine pv_ 7 66 255 HT_.o ?_
                refine done_ (done_of HT_.o (by kernel_rfl)) ?_
                try go_wp2
                go_roundg k4
                case measure => have := HJ1.o; have := HK2.o; have := HJ9.o; have := HK4.o; omega
                case rel => exact ⟨(wrap64 (x5_4 + 1)), rs_, H', ⟨by have := HJ1.o; have := HK2.o; have := HJ9.o; have := HK4.o; omega⟩, ⟨bk_ BK101.o⟩, ⟨bk_ BK103.o⟩, ⟨be2_ HB.o GE101.o GE103.o⟩⟩
               ·replace c40 := Bool.eq_false_iff.mpr c40; subst c40; rw [if_neg nft_] at H; obtain rfl := Option.some.inj H; have hnb45 := NB103_101.o; have hnc45 := NB101_103.o; obtain ⟨hcz46_0, hcz46_1, hfz46_0, hfz46_1⟩ := d2_ BK103
                try go_wp2
                replace BK101 := q_ (blk_drew BK101.o); replace BK103 := q_ (blk_drew BK103.o); replace HB := q_ (below_drew1 HB.o)
                have p106 : 0 ≤ (x5_4 : Int) := of_decide_eq_true as_
                have q106 : x5_4 < (((rd_T62 l0_0 x3_2).f1).length : Int) := of_decide_eq_true as_
                obtain ⟨ad106, A106_1, c106_1, e106, hx106_0, hx106_1, hx106_2, hx106_3, hx106_4, hl106_1, hi106_1⟩ := at_T64 HR102_1.o x5_4 p106 q106; have hw106_4 := hx106_4; have hw106_3 := hx106_3; have hw106_2 := hx106_2; have hw106_1 := hx106_1; have hw106_0 := hx106_0
                cases e106
                replace hx106_0 := mv_ HB.o hx106_0; replace hx106_1 := mv_ HB.o hx106_1; replace hx106_2 := mv_ HB.o hx106_2; replace hx106_3 := mv_ HB.o hx106_3; replace hx106_4 := mv_ HB.o hx106_4; have HR106_1 := q_ hi106_1; have HC106_1 := q_ hl106_1; clear hi106_1 hl106_1; replace p106 := eq_true p106; replace q106 := eq_true q106
                refine start_ (n := 8) (S := fun w' => w'.cell? ⟨gb101, 0, none⟩ = some (.slice (some ad102) l0_0.length c0_0) ∧ w'.cell? ⟨gb103, 0, none⟩ = some (.string ((rd_T62 l0_0 x3_2).f0)) ∧ w'.cell? ⟨gb103, 1, none⟩ = some (.slice (some ad106) ((rd_T62 l0_0 x3_2).f1).length c102_1) ∧ w'.cell? (ad106.add ((x5_4).toNat * 5)) = some (.string ((rd_T64 ((rd_T62 l0_0 x3_2).f1) x5_4).f0)) ∧ w'.cell? ⟨(ad106.add ((x5_4).toNat * 5)).block, (ad106.add ((x5_4).toNat * 5)).off + 1, none⟩ = some (.slice A106_1 ((rd_T64 ((rd_T62 l0_0 x3_2).f1) x5_4).f1.f0).length c106_1) ∧ w'.cell? ⟨(ad106.add ((x5_4).toNat * 5)).block, (ad106.add ((x5_4).toNat * 5)).off + 2, none⟩ = some (.bool ((rd_T64 ((rd_T62 l0_0 x3_2).f1) x5_4).f2)) ∧ w'.cell? ⟨(ad106.add ((x5_4).toNat * 5)).block, (ad106.add ((x5_4).toNat * 5)).off + 3, none⟩ = some (.int .i64 ((rd_T64 ((rd_T62 l0_0 x3_2).f1) x5_4).f3)) ∧ w'.cell? ⟨(ad106.add ((x5_4).toNat * 5)).block, (ad106.add ((x5_4).toNat * 5)).off + 4, none⟩ = some (.string ((rd_T64 ((rd_T62 l0_0 x3_2).f1) x5_4).f4))) (ds := []) (bb 8 0) (by kernel_rfl) rfl rfl ⟨(blk_cell BK101.o 0).trans rfl, (blk_cell BK103.o 0).trans rfl, (blk_cell BK103.o 1).trans rfl, (mv_ HB.o hw106_0), (mv_ HB.o hw106_1), (mv_ HB.o hw106_2), (mv_ HB.o hw106_3), (mv_ HB.o hw106_4)⟩ (fun hHeld => ?_); refine with_tabW spec_GrammarOk.tab12 spec_GrammarOk.bits12 (fun HT_ HW_ => ?_)
                generalize wr.drew = w47 at BK101 BK103 HB HR106_1 hx106_0 hx106_1 hx106_2 hx106_3 hx106_4 hHeld ⊢
                refine pv_ 1 60 2 HT_.o ?_; refine pv_ 3 62 10 HT_.o ?_; refine tv_ 0 59 11 HT_.o HW_.o hHeld ?_; refine tv_ 2 61 15 HT_.o HW_.o hHeld ?_; refine pv_ 4 63 31 HT_.o ?_; refine tv_ 5 64 63 HT_.o HW_.o hHeld ?_
                refine one_ (i := 6) (N := some 65) (bb 8 127) rfl rfl (one_of HT_.o (by kernel_rfl)) (by decide) (fun K hK => ?_)
                refine gs_ Tryz.func68 #[.agg #[.slice (some ad102) l0_0.length c0_0], .agg #[.string ((rd_T64 ((rd_T62 l0_0 x3_2).f1) x5_4).f0), .slice A106_1 ((rd_T64 ((rd_T62 l0_0 x3_2).f1) x5_4).f1.f0).length c106_1, .bool ((rd_T64 ((rd_T62 l0_0 x3_2).f1) x5_4).f2), .int .i64 ((rd_T64 ((rd_T62 l0_0 x3_2).f1) x5_4).f3), .string ((rd_T64 ((rd_T62 l0_0 x3_2).f1) x5_4).f4)]] ?_
                with_reducible refine (spec_l5Rule.calls k4 _ _ l0_0 ((rd_T64 ((rd_T62 l0_0 x3_2).f1) x5_4).f0) _ _ ((rd_T64 ((rd_T62 l0_0 x3_2).f1) x5_4).f1.f0) ((rd_T64 ((rd_T62 l0_0 x3_2).f1) x5_4).f2) ((rd_T64 ((rd_T62 l0_0 x3_2).f1) x5_4).f3) ((rd_T64 ((rd_T62 l0_0 x3_2).f1) x5_4).f4) false _ ?side1 ?side2 ?side3 ?side4 A39.o).mono ?_
                (case side1 => exact Kd.C_below HR0_0.o (be_ HB.o))
                (case side2 => exact HC0_0.o)
                (case side3 => exact Kd.C_below HR106_1.o (be_ HB.o))
                (case side4 => exact HC106_1.o)
                rintro e w48 ⟨rfl, hb⟩
                refine ⟨_, rfl, ?_⟩; replace BK101 := lb_ BK101 hb; replace BK103 := lb_ BK103 hb; replace HB := sb2_ HB GE101 GE103 hb
                (try clear hb)
                (try clear hb2)
                (try clear hk)
                (try clear hi)
                refine hK.out _ _ ⟨(blk_cell BK101.o 0).trans rfl, (blk_cell BK103.o 0).trans rfl, (blk_cell BK103.o 1).trans rfl, (mv_ HB.o hw106_0), (mv_ HB.o hw106_1), (mv_ HB.o hw106_2), (mv_ HB.o hw106_3), (mv_ HB.o hw106_4)⟩ (fun hHeld => ?_)
                clear hK K; refine no_ (some 65) ?_; refine pv_ 7 66 255 HT_.o ?_
                refine done_ (done_of HT_.o (by kernel_rfl)) ?_
                try go_wp2
                go_ret
                exact ⟨rt_, be2_ HB.o GE101.o GE103.o⟩
              ·rw [if_neg c38] at H
               exact absurd H (by simp)
             ·rw [if_neg c37] at H; have c37b0 := df_ c37; clear c37
              have H' := q_ H
              clear H; have hnb49 := NB103_101.o; have hnc49 := NB101_103.o; obtain ⟨hcz50_0, hcz50_1, hfz50_0, hfz50_1⟩ := d2_ BK103
              go_wp2
              go_roundg k4
              case measure => have := HJ1.o; have := HK2.o; have := HJ9.o; have := HK4.o; omega
              case rel => exact ⟨(wrap64 (x3_2 + 1)), rs_, H', ⟨by have := HJ1.o; have := HK2.o; have := HJ9.o; have := HK4.o; omega⟩, ⟨bk_ BK101.o⟩, ⟨be2_ HB.o GE101.o GE103.o⟩⟩
       ·rw [if_neg c9] at H
        exact absurd H (by simp)
      ·rw [if_neg c8] at H; have c8b0 := df_ c8; clear c8; obtain rfl := Option.some.inj H; obtain ⟨hcz51_0, hfz51_0⟩ := d1_ BK101
       go_wp2
       go_ret
       exact ⟨rt_, be1_ HB.o GE101.o⟩
end Go.Proofs.YtijmhelacmjggaaGreat.P
namespace Go.Proofs.YtijmhelacmjggaaGreat.P
open Go.RowKit Go.Proofs.YtijmhelacmjggaaGreatW.PrintWords Go.Proofs.YtijmhelacmjggaaGreatW.PrintLast Go.Proofs.YtijmhelacmjggaaGreatEv
set_option linter.unusedVariables false
set_option linter.unusedSimpArgs false
def okB (i : Nat) (b : Int) : Bool := decide (97 ≤ b ∧ b ≤ 122) || (decide (i ≠ 0) && decide (48 ≤ b ∧ b ≤ 57))
def okS (b : Int) : Bool := decide (97 ≤ b ∧ b ≤ 122) || decide (48 ≤ b ∧ b ≤ 57)
def nameB (s : ByteArray) : Bool := (List.range s.size).all (fun i => okB i (bt s (i : Int))) && decide (1 ≤ s.size ∧ s.size ≤ 12)
theorem all_range (n : Nat) (p : Nat → Bool) (i : Nat) (h : i < n) : ((List.range n).drop i).all p = (p i && ((List.range n).drop (i + 1)).all p) := by
  rw [all_drop (List.range n) 0 p i (by simpa using h)]
  have : (List.range n).getD i 0 = i := by
    rw [List.getD_eq_getElem?_getD, List.getElem?_eq_getElem (by simpa using h)]
    simp
  rw [this]
theorem impl_isName_ev (s : ByteArray) (hs : s.size ≤ 1048576) : Ev (fun k => impl_isName.f k s) (nameB s) := by
  unfold impl_isName.f nameB
  refine ev_congr (ev_loop s.size (fun k i => impl_isName.l0 k s (s.size : Int) (i : Nat)) (fun i => ((List.range s.size).drop i).all (fun j => okB j (bt s (j : Int))) && decide (1 ≤ s.size ∧ s.size ≤ 12)) ?_ ?_ 0 (by omega)) (by simp)
  · rw [ev_succ]
    simp only [impl_isName.l0, impl_length.f, impl_within_eq, Option.bind_some, ev_ite]
    rw [if_neg (by omega)]
    refine ev_some.2 ?_
    rw [List.drop_eq_nil_of_le (by simp)]
    simp only [List.all_nil, Bool.true_and]
    exact decide_eq_decide.2 (by omega)
  · intro i hi ih
    rw [ev_succ, all_range _ _ _ hi]
    simp only [impl_isName.l0, ev_ite]
    rw [if_pos (by omega), if_pos (by omega), if_pos (by omega), wrap_succ hi (by omega)]
    generalize bt s (i : Int) = b at *
    by_cases c : 97 ≤ b ∧ b ≤ 122
    · rw [if_pos (by omega), if_pos (by omega)]
      have : okB i b = true := by simp [okB, c]
      rw [this, Bool.true_and]
      exact ih
    · have e1 : okB i b = (decide (i ≠ 0) && decide (48 ≤ b ∧ b ≤ 57)) := by simp [okB, decide_eq_false c]
      rw [e1]
      by_cases c0 : i = 0
      · have e2 : (decide (i ≠ 0) && decide (48 ≤ b ∧ b ≤ 57)) = false := by simp [c0]
        rw [e2]
        split
        · rw [if_neg (by omega)]
          rw [if_pos (by omega)]
          exact ev_some.2 (by simp)
        · rw [if_pos (by omega)]
          exact ev_some.2 (by simp)
      · by_cases c1 : 48 ≤ b ∧ b ≤ 57
        · have e2 : (decide (i ≠ 0) && decide (48 ≤ b ∧ b ≤ 57)) = true := by simp [c0, c1]
          rw [e2, Bool.true_and]
          split
          · rw [if_neg (by omega), if_neg (by omega), if_neg (by omega), if_neg (by omega)]
            exact ih
          · rw [if_neg (by omega), if_neg (by omega), if_neg (by omega)]
            exact ih
        · have e2 : (decide (i ≠ 0) && decide (48 ≤ b ∧ b ≤ 57)) = false := by simp [decide_eq_false c1]
          rw [e2]
          repeat' split
          all_goals first | exact ev_some.2 (by simp) | (exfalso; omega)
theorem spec_l1Digit_eq (b : Int) : spec_l1Digit.f b = some (decide (48 ≤ b ∧ b ≤ 57)) := by
  unfold spec_l1Digit.f
  by_cases h : b ≥ 48 <;> simp [h]
theorem nameB_split (s : ByteArray) (h : 0 < s.size) (hd : ¬ (48 ≤ bt s 0 ∧ bt s 0 ≤ 57)) : (List.range s.size).all (fun i => okB i (bt s (i : Int))) = (List.range s.size).all (fun i => okS (bt s (i : Int))) := by
  rw [Bool.eq_iff_iff, List.all_eq_true, List.all_eq_true]
  have hb : ∀ i, okB i (bt s (i : Int)) = okS (bt s (i : Int)) := by
    intro i
    unfold okB okS
    by_cases h0 : i = 0
    · subst h0
      have e : decide (48 ≤ bt s ((0 : Nat) : Int) ∧ bt s ((0 : Nat) : Int) ≤ 57) = false := decide_eq_false hd
      rw [e]
      simp
    · simp [h0]
  constructor
  · intro h i hi
    rw [← hb]
    exact h i hi
  · intro h i hi
    rw [hb]
    exact h i hi
theorem spec_l1Name_ev (s : ByteArray) : Ev (fun k => spec_l1Name.f k s) (nameB s) := by
  unfold spec_l1Name.f
  simp only [ev_ite]
  by_cases c1 : (s.size : Int) < 1
  · rw [if_pos c1, ev_succ]
    simp only [spec_l1Name.j0, if_true]
    exact ev_some.2 (by simp [nameB]; omega)
  by_cases c2 : (s.size : Int) > 12
  · rw [if_neg c1, if_pos c2, ev_succ]
    simp only [spec_l1Name.j0, if_true]
    exact ev_some.2 (by simp [nameB]; omega)
  rw [if_neg c1, if_neg c2, if_pos (by omega)]
  simp only [spec_l1Digit_eq, Option.bind_some]
  by_cases c3 : 48 ≤ bt s 0 ∧ bt s 0 ≤ 57
  · rw [decide_eq_true c3, ev_succ]
    simp only [spec_l1Name.j0, if_true]
    refine ev_some.2 ?_
    symm
    rw [nameB, Bool.and_eq_false_iff]
    left
    rw [← List.drop_zero (l := List.range s.size), all_range _ _ 0 (by omega)]
    have : okB 0 (bt s ((0 : Nat) : Int)) = false := by
      simp only [okB]
      rw [decide_eq_false (by show ¬ (97 ≤ bt s 0 ∧ bt s 0 ≤ 122); omega)]
      simp
    rw [this, Bool.false_and]
  · rw [decide_eq_false c3, ev_succ]
    simp only [spec_l1Name.j0, Bool.false_eq_true, if_false]
    rw [nameB, nameB_split s (by omega) c3, decide_eq_true (by omega), Bool.and_true]
    refine ev_congr (ev_loop s.size (fun k i => spec_l1Name.l0 k s (i : Nat)) (fun i => ((List.range s.size).drop i).all (fun j => okS (bt s (j : Int)))) ?_ ?_ 0 (by omega)) (by simp)
    · rw [ev_succ]
      simp only [spec_l1Name.l0, ev_ite]
      rw [if_neg (by omega)]
      refine ev_some.2 ?_
      rw [List.drop_eq_nil_of_le (by simp)]
      simp
    · intro i hi ih
      rw [ev_succ, all_range _ _ _ hi]
      simp only [spec_l1Name.l0, spec_l1Digit_eq, Option.bind_some, ev_ite]
      rw [if_pos (by omega), if_pos (by omega), wrap_succ hi (by omega)]
      generalize bt s (i : Int) = b at *
      by_cases c : 48 ≤ b ∧ b ≤ 57
      · rw [if_pos (decide_eq_true c), show okS b = true by simp [okS, c], Bool.true_and]
        exact ih
      · rw [if_neg (by simpa using c)]
        by_cases c4 : b < 97
        · rw [if_pos c4, show okS b = false by simp only [okS]; rw [decide_eq_false c, decide_eq_false (by omega)]; rfl]
          exact ev_some.2 (by simp)
        · rw [if_neg c4]
          by_cases c5 : b > 122
          · rw [if_pos c5, show okS b = false by simp only [okS]; rw [decide_eq_false c, decide_eq_false (by omega)]; rfl]
            exact ev_some.2 (by simp)
          · rw [if_neg c5, show okS b = true by simp only [okS]; rw [decide_eq_true (show 97 ≤ b ∧ b ≤ 122 by omega)]; rfl, Bool.true_and]
            exact ih
theorem spec_ModeAt_ev (l : List S62) (nm : ByteArray) (hl : l.length ≤ 9223372036854775807) : Ev (fun k => spec_ModeAt.f k l nm) (modeAtP l nm) := by
  unfold spec_ModeAt.f modeAtP
  refine ev_congr (ev_loop l.length (fun k i => spec_ModeAt.l0 k nm (i : Nat) l) (fun i => idxP (named nm) (l.drop i) (i : Nat)) ?_ ?_ 0 (by omega)) (by simp)
  · rw [ev_succ]
    simp only [spec_ModeAt.l0, ev_ite]
    rw [if_neg (by omega)]
    exact ev_some.2 (by simp [idxP])
  · intro i hi ih
    rw [ev_succ]
    simp only [spec_ModeAt.l0, ev_ite]
    rw [if_pos (by omega), if_pos (by omega), wrap_succ hi (by omega), drop_cons l z62 i hi]
    have hr : l.getD i z62 = rd_T62 l i := by simp [rd_T62]
    rw [hr]
    unfold idxP named
    by_cases c : (rd_T62 l i).f0.toList = nm.toList
    · rw [if_pos c, if_pos (by simpa using c)]
      exact ev_some.2 rfl
    · rw [if_neg c, if_neg (by simpa using c)]
      exact ih
def targetB (g : List S62) (x : S64) : Bool := if x.f3 = 1 then decide (modeAtP g x.f4 ≥ 0) else if x.f3 = 2 then decide (modeAtP g x.f4 ≥ 0) else x.f4.toList == ([] : List UInt8)
def ruleB (g : List S62) (x : S64) : Bool := nameB x.f0 && (rxB x.f1.f0 && (!(rxB x.f1.f0 && nullE x.f1.f0 (x.f1.f0.length - 1)) && (decide (0 ≤ x.f3 ∧ x.f3 ≤ 3) && targetB g x)))
def smallR (x : S64) : Prop := x.f0.size ≤ 1048576 ∧ x.f1.f0.length ≤ 1048576 ∧ ∀ y ∈ x.f1.f0, y.f2.length ≤ 9223372036854775807
def smallM (m : S62) : Prop := m.f0.size ≤ 1048576 ∧ m.f1.length ≤ 1048576 ∧ ∀ x ∈ m.f1, smallR x
def smallG (g : List S62) : Prop := g.length ≤ 1048576 ∧ ∀ m ∈ g, smallM m
theorem impl_ruleOk_ev (g : List S62) (x : S64) (hx : smallR x) : Ev (fun k => impl_ruleOk.f k g x.f0 x.f1.f0 x.f2 x.f3 x.f4) (ruleB g x) := by
  have hj : ∀ b : Bool, Ev (fun k => impl_ruleOk.j0 k b g x.f0 x.f1.f0 x.f2 x.f3 x.f4) (!b && targetB g x) := by
    intro b
    rw [ev_succ]
    cases b
    · simp only [impl_ruleOk.j0, impl_Rule_hasTarget.f, impl_ModeAt.f, Bool.false_eq_true, if_false]
      unfold targetB
      by_cases c1 : x.f3 = 1
      · simp only [if_pos c1, Option.bind_some, if_true]
        exact ev_some.2 (by simp)
      · simp only [if_neg c1, Option.bind_some]
        by_cases c2 : x.f3 = 2
        · simp only [c2, beq_self_eq_true, if_true, Option.bind_some]
          exact ev_some.2 (by simp)
        · rw [if_neg (by simpa using c2), if_neg c2]
          exact ev_some.2 (by simp)
    · simp only [impl_ruleOk.j0, if_true]
      exact ev_some.2 (by simp)
  unfold impl_ruleOk.f ruleB
  rw [ev_bind (impl_isName_ev x.f0 hx.1)]
  cases nameB x.f0
  · simp only [Bool.false_eq_true, if_false]
    exact hj true
  simp only [if_true]
  rw [ev_bind (impl_RxOk_ev x.f1.f0 hx.2.1)]
  cases hr : rxB x.f1.f0
  · simp only [Bool.false_eq_true, if_false]
    exact hj true
  simp only [if_true]
  rw [ev_bind (impl_Nullable_ev x.f1.f0 hx.2.1), hr]
  cases nullE x.f1.f0 (x.f1.f0.length - 1)
  · simp only [Bool.and_false, Bool.false_eq_true, if_false, impl_within_eq, Option.bind_some]
    refine ev_congr (hj _) ?_
    simp
  · simp only [Bool.and_true, if_true]
    exact hj true
theorem spec_l5Rule_ev (g : List S62) (hg : g.length ≤ 9223372036854775807) (x : S64) (hx : smallR x) : Ev (fun k => spec_l5Rule.f k g x.f0 x.f1.f0 x.f2 x.f3 x.f4) (ruleB g x) := by
  have hj : ∀ b : Bool, Ev (fun k => spec_l5Rule.j0 k b g x.f0 x.f1.f0 x.f2 x.f3 x.f4) (!b && targetB g x) := by
    intro b
    rw [ev_succ]
    cases b
    · simp only [spec_l5Rule.j0, Bool.false_eq_true, if_false]
      unfold targetB
      by_cases c1 : x.f3 = 1
      · simp only [if_pos c1]
        rw [ev_bind (spec_ModeAt_ev g x.f4 hg)]
        exact ev_some.2 (by simp)
      · simp only [if_neg c1]
        by_cases c2 : x.f3 = 2
        · simp only [if_pos c2]
          rw [ev_bind (spec_ModeAt_ev g x.f4 hg)]
          exact ev_some.2 (by simp)
        · simp only [if_neg c2]
          exact ev_some.2 (by simp)
    · simp only [spec_l5Rule.j0, if_true]
      exact ev_some.2 (by simp)
  have hn : spec_Nullable.f x.f1.f0 = some (rxB x.f1.f0 && nullE x.f1.f0 (x.f1.f0.length - 1)) := if_pos hx.2.1
  unfold spec_l5Rule.f ruleB
  rw [ev_bind (spec_l1Name_ev x.f0)]
  cases nameB x.f0
  · simp only [Bool.false_eq_true, if_false]
    exact hj true
  simp only [if_true]
  rw [ev_bind (spec_RxOk_ev x.f1.f0 hx.2.1 hx.2.2)]
  simp only [hn]
  cases rxB x.f1.f0
  · simp only [Bool.false_eq_true, if_false]
    exact hj true
  simp only [if_true, Option.bind_some]
  cases nullE x.f1.f0 (x.f1.f0.length - 1)
  · simp only [Bool.and_false, Bool.false_eq_true, if_false, spec_l1In_eq, Option.bind_some]
    refine ev_congr (hj _) ?_
    simp
  · simp only [Bool.and_true, if_true]
    exact hj true
def modeB (g : List S62) (i : Nat) (m : S62) : Bool := nameB m.f0 && (decide (modeAtP g m.f0 = (i : Int)) && (decide (1 ≤ m.f1.length ∧ m.f1.length ≤ 40) && m.f1.all (ruleB g)))
def modesB (g : List S62) (i : Nat) : Bool := ((List.range g.length).drop i).all fun j => modeB g j (rd_T62 g (j : Int))
def grammarB (g : List S62) : Bool := decide (1 ≤ g.length ∧ g.length ≤ 12) && modesB g 0
theorem modesB_step (g : List S62) (i : Nat) (h : i < g.length) : modesB g i = (modeB g i (rd_T62 g (i : Int)) && modesB g (i + 1)) := all_range _ _ _ h
theorem modesB_end (g : List S62) : modesB g g.length = true := by
  unfold modesB
  rw [List.drop_eq_nil_of_le (by simp)]
  rfl
theorem rd_mode_mem (g : List S62) (i : Nat) (h : i < g.length) : rd_T62 g (i : Int) ∈ g := by
  unfold rd_T62
  rw [List.getD_eq_getElem?_getD, List.getElem?_eq_getElem (by simpa using h)]
  exact List.getElem_mem _
theorem rd_rule_mem (l : List S64) (i : Nat) (h : i < l.length) : rd_T64 l (i : Int) ∈ l := by
  unfold rd_T64
  rw [List.getD_eq_getElem?_getD, List.getElem?_eq_getElem (by simpa using h)]
  exact List.getElem_mem _
theorem spec_GrammarOk_l1 (g : List S62) (hg : smallG g) (i : Nat) (nm : ByteArray) (rs : List S64) (hrs : ∀ x ∈ rs, smallR x) (hl : rs.length ≤ 1048576) (R : Bool) (hi : i < g.length) (ih : Ev (fun k => spec_GrammarOk.l0 k ((i + 1 : Nat) : Int) g) R) : Ev (fun k => spec_GrammarOk.l1 k (i : Int) 0 g nm rs) (rs.all (ruleB g) && R) := by
  have hgl := hg.1
  refine ev_congr (ev_loop rs.length (fun k j => spec_GrammarOk.l1 k (i : Int) (j : Nat) g nm rs) (fun j => (rs.drop j).all (ruleB g) && R) ?_ ?_ 0 (by omega)) (by simp)
  · rw [ev_succ]
    simp only [spec_GrammarOk.l1, ev_ite]
    rw [if_neg (by omega), wrap_succ hi (by omega), List.drop_length]
    simpa using ih
  · intro j hj ihj
    rw [ev_succ, all_drop rs z64 (ruleB g) j hj]
    have hr : rs.getD j z64 = rd_T64 rs j := by simp [rd_T64]
    rw [hr]
    simp only [spec_GrammarOk.l1, ev_ite]
    rw [if_pos (by omega), if_pos (by omega), wrap_succ hj (by omega), ev_bind (spec_l5Rule_ev g (by omega) (rd_T64 rs j) (hrs _ (rd_rule_mem rs j hj)))]
    cases ruleB g (rd_T64 rs j)
    · exact ev_some.2 (by simp)
    · simp only [if_true, Bool.true_and]
      exact ihj
theorem spec_GrammarOk_ev (g : List S62) (hg : smallG g) : Ev (fun k => spec_GrammarOk.f k g) (grammarB g) := by
  have hgl := hg.1
  have h0 : Ev (fun k => spec_GrammarOk.l0 k 0 g) (modesB g 0) := by
    refine ev_loop g.length (fun k i => spec_GrammarOk.l0 k (i : Nat) g) (fun i => modesB g i) ?_ ?_ 0 (by omega)
    · rw [ev_succ, modesB_end]
      simp only [spec_GrammarOk.l0, ev_ite]
      rw [if_neg (by omega)]
      exact ev_some.2 rfl
    · intro i hi ih
      rw [ev_succ, modesB_step g i hi]
      simp only [spec_GrammarOk.l0, ev_ite]
      rw [if_pos (by omega), if_pos (by omega)]
      have hm := hg.2 _ (rd_mode_mem g i hi)
      have hj : ∀ b : Bool, Ev (fun k => spec_GrammarOk.j2 k (i : Int) b g (rd_T62 g i).f0 (rd_T62 g i).f1) (!b && ((rd_T62 g i).f1.all (ruleB g) && modesB g (i + 1))) := by
        intro b
        rw [ev_succ]
        cases b
        · simp only [spec_GrammarOk.j2, Bool.false_eq_true, if_false]
          simpa using spec_GrammarOk_l1 g hg i _ _ hm.2.2 hm.2.1 _ hi ih
        · simp only [spec_GrammarOk.j2, if_true]
          exact ev_some.2 (by simp)
      unfold modeB
      generalize rd_T62 g (i : Int) = m at *
      rw [ev_bind (spec_l1Name_ev m.f0)]
      cases nameB m.f0
      · simp only [Bool.false_eq_true, if_false, Bool.false_and]
        exact hj true
      simp only [if_true, Bool.true_and]
      rw [ev_bind (spec_ModeAt_ev g m.f0 (by omega))]
      simp only [ev_ite]
      by_cases c1 : modeAtP g m.f0 = (i : Int)
      · rw [if_pos c1, decide_eq_true c1, Bool.true_and]
        by_cases c2 : (m.f1.length : Int) < 1
        · rw [if_pos c2, decide_eq_false (by omega)]
          exact hj true
        · rw [if_neg c2]
          refine ev_congr (hj _) ?_
          by_cases c3 : (m.f1.length : Int) > 40
          · rw [decide_eq_true c3, decide_eq_false (by omega)]
            rfl
          · rw [decide_eq_false c3, decide_eq_true (by omega)]
            rfl
      · rw [if_neg c1, decide_eq_false c1]
        exact hj true
  have hj : ∀ b : Bool, Ev (fun k => spec_GrammarOk.j0 k b g) (!b && modesB g 0) := by
    intro b
    rw [ev_succ]
    cases b
    · simp only [spec_GrammarOk.j0, Bool.false_eq_true, if_false]
      simpa using h0
    · simp only [spec_GrammarOk.j0, if_true]
      exact ev_some.2 (by simp)
  unfold spec_GrammarOk.f grammarB
  simp only [ev_ite]
  by_cases c1 : (g.length : Int) < 1
  · rw [if_pos c1, decide_eq_false (by omega)]
    exact hj true
  · rw [if_neg c1]
    refine ev_congr (hj _) ?_
    by_cases c2 : (g.length : Int) > 12
    · rw [decide_eq_true c2, decide_eq_false (by omega)]
      rfl
    · rw [decide_eq_false c2, decide_eq_true (by omega)]
      rfl
end Go.Proofs.YtijmhelacmjggaaGreat.P
namespace Go.Proofs.YtijmhelacmjggaaGreat.P
open Go.RowKit Go.Proofs.YtijmhelacmjggaaGreatW.PrintWords Go.Proofs.YtijmhelacmjggaaGreatW.PrintLast Go.Proofs.YtijmhelacmjggaaGreatW.PrintMore
attribute [local go_sem] max2_int min2_int max_two min_two max_three min_three max_four min_four
set_option linter.unusedVariables false
set_option linter.unusedSimpArgs false
/-! ### impl_Mode_57: function 57 -/
def impl_Mode_57.f (l0 : List (S62)) : Option (Int) := some (l0.length : Int)
theorem impl_Mode_57.calls (A0 : Option Addr) (c0 : Nat) (l0 : List (S62)) (r : Int) (w : World) (hr0 : Kd.C k62 w A0 l0.length l0) (hc0 : l0.length ≤ c0) (h : impl_Mode_57.f l0 = some r) :
  Calls Tryz.prog 57 #[.slice A0 l0.length c0] w fun e w' => e = .returned (.int .i64 r) ∧ Drawn0 w w' := by
 have HR0 := q_ hr0; have HC0 := q_ hc0; clear hr0 hc0
 have H : (some (l0.length : Int)) = some r := h
 clear h; obtain rfl := Option.some.inj H
 go_enter Tryz.func57, Tryz.ntmps57
 go_wp2
 go_ret
 exact ⟨by first | rfl | (simp; done) | (simp [*]; done), by repeat (first | exact Drawn0.refl _ | apply Drawn0.step)⟩
/-! ### impl_Rule_71: function 71 -/
def impl_Rule_71.f (l0 : List (S64)) : Option (Int) := some (l0.length : Int)
theorem impl_Rule_71.calls (A0 : Option Addr) (c0 : Nat) (l0 : List (S64)) (r : Int) (w : World) (hr0 : Kd.C k64 w A0 l0.length l0) (hc0 : l0.length ≤ c0) (h : impl_Rule_71.f l0 = some r) :
  Calls Tryz.prog 71 #[.slice A0 l0.length c0] w fun e w' => e = .returned (.int .i64 r) ∧ Drawn0 w w' := by
 have HR0 := q_ hr0; have HC0 := q_ hc0; clear hr0 hc0
 have H : (some (l0.length : Int)) = some r := h
 clear h; obtain rfl := Option.some.inj H
 go_enter Tryz.func71, Tryz.ntmps71
 go_wp2
 go_ret
 exact ⟨by first | rfl | (simp; done) | (simp [*]; done), by repeat (first | exact Drawn0.refl _ | apply Drawn0.step)⟩
end Go.Proofs.YtijmhelacmjggaaGreat.P
namespace Go.Proofs.YtijmhelacmjggaaGreat.P
open Go.RowKit Go.Shelf Go.Proofs.YtijmhelacmjggaaGreatW.PrintWords Go.Proofs.YtijmhelacmjggaaGreatW.PrintLast Go.Proofs.YtijmhelacmjggaaGreatW.PrintMore Go.Proofs.YtijmhelacmjggaaGreatEv
set_option linter.unusedVariables false
set_option linter.unusedSimpArgs false
theorem GrammarOk_1_calls (g : List S62) (x : S64) (A0 A1 : Option Addr) (c0 c1 B : Nat) (W : World) (hx : smallR x) (hB : W.heap[B]? = some (.cells #[.slice A0 g.length c0] 31)) (hr0 : Kd.C k62 W A0 g.length g) (hc0 : g.length ≤ c0) (hr1 : Kd.C k121 W A1 x.f1.f0.length x.f1.f0) (hc1 : x.f1.f0.length ≤ c1) :
    Calls Tryz.prog 73 (#[.agg #[.string x.f0, .slice A1 x.f1.f0.length c1, .bool x.f2, .int .i64 x.f3, .string x.f4]] ++ #[.pointer (some ⟨B, 0, none⟩)]) W fun e w' => e = .returned (.bool (!ruleB g x)) ∧ Below W.heap.size W w' := by
  obtain ⟨k, hk⟩ := ev_get (impl_ruleOk_ev g x hx)
  generalize ruleB g x = b at *
  have HK := q_ hk
  have hcell : W.cell? ⟨B, 0, none⟩ = some (.slice A0 g.length c0) := (blk_cell hB 0).trans rfl
  have hlt := blk_lt hB
  have hc2 : ∀ o, (W.alloc o).cell? ⟨B, 0, none⟩ = some (.slice A0 g.length c0) := fun o => ((below_alloc (Below.refl _ _) o : Below W.heap.size W _).cell hlt).trans hcell
  have hne : (B == W.heap.size) = false := beq_eq_false_iff_ne.mpr (by omega)
  have HB := q_ (below_alloc (Below.refl W.heap.size W) (.cells #[.string x.f0, .slice A1 x.f1.f0.length c1, .bool x.f2, .int .i64 x.f3, .string x.f4] 64))
  have HR0 := q_ (Kd.C_below hr0 HB.o)
  have HR1 := q_ (Kd.C_below hr1 HB.o)
  have HC0 := q_ hc0
  have HC1 := q_ hc1
  clear hk hr0 hr1 hc0 hc1 hx hB
  show Calls Tryz.prog _ #[.agg #[.string x.f0, .slice A1 x.f1.f0.length c1, .bool x.f2, .int .i64 x.f3, .string x.f4], .pointer (some ⟨B, 0, none⟩)] W _
  go_enter Tryz.func73, Tryz.ntmps73
  go_wp2_with (go_at_call 74; refine (impl_ruleOk.calls k A0 c0 g x.f0 A1 c1 x.f1.f0 x.f2 x.f3 x.f4 b _ HR0.o HC0.o HR1.o HC1.o HK.o).mono ?_; rintro e w' ⟨rfl, hb⟩)
  go_ret
  exact ⟨rfl, below_then HB.o HB.o.size hb⟩
theorem any_not_all {α : Type} (l : List α) (p : α → Bool) : (l.any fun x => !p x) = !l.all p := by
  induction l with
  | nil => rfl
  | cons a r ih => simp [ih, Bool.not_and]
theorem rules_calls (l0 : List S62) (rs : List S64) (A0 A1 : Option Addr) (c0 c1 g : Nat) (w W : World) (hrs : ∀ x ∈ rs, smallR x) (hr0 : Kd.C k62 w A0 l0.length l0) (hc0 : l0.length ≤ c0) (hr1 : Kd.C k64 w A1 rs.length rs) (hB : W.heap[g]? = some (.cells #[.slice A0 l0.length c0] 31)) (hb : Below w.heap.size w W) :
    Calls Tryz.prog 72 #[.slice A1 rs.length c1, .func (.func 73) #[] #[.pointer (some ⟨g, 0, none⟩)]] W fun e w' => e = .returned (.bool (!rs.all (ruleB l0))) ∧ Below W.heap.size W w' := by
  have eg : ∀ args w, (callFunc 73 args).run Tryz.prog w = .ok (.enter 73 args) w := enters_of Tryz.func73 (by kernel_rfl) rfl
  rw [← any_not_all]
  refine ContainsFunc_Rule _ _ eg (fun x => !ruleB l0 x) A1 c1 rs W (Kd.C_below hr1 hb) ?_
  intro W2 x A2 c2 hx hb2 hr2 hc2
  exact GrammarOk_1_calls l0 x A0 A2 c0 c2 g W2 (hrs x hx) (blk_below hB hb2) (Kd.C_below (Kd.C_below hr0 hb) hb2) hc0 hr2 hc2
theorem GrammarOk_hand (A0 : Option Addr) (c0 : Nat) (l0 : List S62) (w : World) (hg : smallG l0) (hr0 : Kd.C k62 w A0 l0.length l0) (hc0 : l0.length ≤ c0) :
    Calls Tryz.prog 42 #[.agg #[.slice A0 l0.length c0]] w fun e w' => e = .returned (.bool (grammarB l0)) ∧ Below w.heap.size w w' := by
  have HR := q_ hr0
  have HC := q_ hc0
  have HG := q_ hg
  have hn := hr0.2.1
  have hg1 := hg.1
  clear hr0 hc0 hg
  have HB := q_ (below_alloc (Below.refl w.heap.size w) (.cells #[.slice A0 l0.length c0] 31))
  have BK := q_ (blk_new w (.cells #[.slice A0 l0.length c0] 31))
  have HI := q_ (impl_within_eq (l0.length : Int) 1 12)
  have hgd : grammarB l0 = (decide (1 ≤ (l0.length : Int) ∧ (l0.length : Int) ≤ 12) && modesB l0 0) := by
    unfold grammarB
    congr 1
    exact decide_eq_decide.2 (by omega)
  cases hb1 : decide (1 ≤ (l0.length : Int) ∧ (l0.length : Int) ≤ 12)
  · rw [hb1] at HI hgd
    rw [hgd, Bool.false_and]
    clear hgd hb1
    go_enter Tryz.func42, Tryz.ntmps42
    go_wp2_with (first | (go_at_call 57; refine (impl_Mode_57.calls A0 c0 l0 _ _ (Kd.C_below HR.o HB.o) HC.o rfl).mono ?_; rintro e w' ⟨rfl, ⟨nd, rfl⟩⟩) | (go_at_call 56; refine (impl_within.calls _ _ _ false _ HI.o).mono ?_; rintro e w' ⟨rfl, ⟨nd2, rfl⟩⟩))
    go_ret
    exact ⟨rfl, by repeat (first | (with_reducible exact HB.o) | apply pw_below_drewN | apply below_drew1)⟩
  rw [hb1] at HI hgd
  rw [Bool.true_and] at hgd
  have HA0 := q_ hgd
  clear hgd hb1
  generalize hgB : grammarB l0 = gb at *
  clear hgB
  go_enter Tryz.func42, Tryz.ntmps42
  go_wp2_with (first | (go_at_call 57; refine (impl_Mode_57.calls A0 c0 l0 _ _ (Kd.C_below HR.o HB.o) HC.o rfl).mono ?_; rintro e w' ⟨rfl, ⟨nd, rfl⟩⟩) | (go_at_call 56; refine (impl_within.calls _ _ _ true _ HI.o).mono ?_; rintro e w' ⟨rfl, ⟨nd2, rfl⟩⟩))
  go_loopg [13] l0.length (fun gg s13 wr => ∃ kk : Nat, kk ≤ l0.length ∧ l0.length - kk ≤ gg ∧ s13 = .int .i64 kk ∧ J0 (gb = modesB l0 kk) ∧ J0 (wr.heap[w.heap.size]? = some (.cells #[.slice A0 l0.length c0] 31)) ∧ J0 (Below w.heap.size w wr))
  case atStart => exact ⟨0, Nat.zero_le _, by omega, rfl, HA0, ⟨BK.o⟩, ⟨by repeat (first | (with_reducible exact HB.o) | apply pw_below_drewN | apply below_drew1)⟩⟩
  case round =>
    clear HA0 HB BK
    obtain ⟨kk, hkk, hgg, rfl, HA, BK, HB⟩ := hrel
    by_cases hlt : kk < l0.length
    · have hltz : (kk : Int) < (l0.length : Int) := by omega
      have hk0 : (0 : Int) ≤ (kk : Int) := by omega
      obtain ⟨ad, A1, c1, e1, hx0, hx1, hl, hi⟩ := at_T62 HR.o (kk : Int) (by omega) hltz
      cases e1
      rw [Int.toNat_natCast] at hx0 hx1
      replace hx0 := mv_ HB.o hx0
      replace hx1 := mv_ HB.o hx1
      have hm := HG.o.2 _ (rd_mode_mem l0 kk hlt)
      have hs := HA.o.trans (modesB_step l0 kk hlt)
      unfold modeB at hs
      clear HA
      generalize rd_T62 l0 (kk : Int) = y at *
      have HI1 := q_ hi
      have HC1 := q_ hl
      obtain ⟨kn, hkn⟩ := ev_get (impl_isName_ev y.f0 hm.1)
      have HN := q_ hkn
      have HM := q_ hm
      have HS := q_ hs
      clear hi hl hkn hm hs
      have hcg : wr.cell? ⟨w.heap.size, 0, none⟩ = some (.slice (some ad) l0.length c0) := (blk_cell BK.o 0).trans rfl
      go_upto_region 6 with ((with_reducible refine gate_dst (N := 4) rfl ?_); refine box_event ?hg (N := 4) ?hd (cs := #[.string ⟨#[]⟩, .slice none 0 0]) (t := 62) ?hr ?_; (case hd => rfl); (case hg => rfl); (case hr => first | (go_simp; done) | (go_simp; rfl)); intro gm hgm w20 hbox hb; have n0_ := q_ (blk_below BK.o hb); have n1_ := q_ (below_step HB.o hb); have n2_ := q_ (show w.heap.size ≤ gm by rw [hgm]; exact below_size HB.o); have n3_ := q_ (show w.heap.size ≠ gm by rw [hgm]; exact Nat.ne_of_lt (blk_lt BK.o)); clear BK HB; have BK := n0_; have HB := n1_; have GE := n2_; have NE := n3_; have BKm := q_ hbox; clear n0_ n1_ n2_ n3_ hb hbox hgm; have hcz0 : w20.cell? ⟨gm, 0, none⟩ = some (.string ⟨#[]⟩) := (blk_cell BKm.o 0).trans rfl; have hcz1 : w20.cell? ⟨gm, 1, none⟩ = some (.slice none 0 0) := (blk_cell BKm.o 1).trans rfl; have hfz0 := blk_frozen BKm.o 0; have hfz1 := blk_frozen BKm.o 1)
      (try simp only [Act.put, List.setIfInBounds_toArray, List.set_cons_zero, List.set_cons_succ])
      have BM2 : J0 (((w20.setCell ⟨gm, 0, none⟩ (.string y.f0)).setCell ⟨gm, 1, none⟩ (.slice A1 y.f1.length c1)).heap[gm]? = some (.cells #[.string y.f0, .slice A1 y.f1.length c1] 62)) := ⟨blk_put (blk_put BKm.o 0 _ rfl) 1 _ rfl⟩
      have BK2 : J0 (((w20.setCell ⟨gm, 0, none⟩ (.string y.f0)).setCell ⟨gm, 1, none⟩ (.slice A1 y.f1.length c1)).heap[w.heap.size]? = some (.cells #[.slice (some ad) l0.length c0] 31)) := ⟨blk_far (blk_far BK.o NE.o _) NE.o _⟩
      have HB2 : J0 (Below w.heap.size w ((w20.setCell ⟨gm, 0, none⟩ (.string y.f0)).setCell ⟨gm, 1, none⟩ (.slice A1 y.f1.length c1))) := ⟨below_set (below_set HB.o GE.o) GE.o⟩
      clear BKm BK HB hcz0 hcz1 hfz0 hfz1 hx0 hx1 hcg
      generalize (w20.setCell ⟨gm, 0, none⟩ (.string y.f0)).setCell ⟨gm, 1, none⟩ (.slice A1 y.f1.length c1) = w3 at *
      have hc0m : w3.cell? ⟨gm, 0, none⟩ = some (.string y.f0) := (blk_cell BM2.o 0).trans rfl
      have hc1m : w3.cell? ⟨gm, 1, none⟩ = some (.slice A1 y.f1.length c1) := (blk_cell BM2.o 1).trans rfl
      have hcg : w3.cell? ⟨w.heap.size, 0, none⟩ = some (.slice (some ad) l0.length c0) := (blk_cell BK2.o 0).trans rfl
      cases hq1 : nameB y.f0
      · rw [hq1] at HN HS
        have hs2 : J0 (gb = false) := ⟨by rw [HS.o]; rfl⟩
        clear HS hq1
        go_wp2_with (go_at_call 69; refine (impl_isName.calls kn y.f0 false _ HN.o).mono ?_; rintro e w' ⟨rfl, ⟨nd3, rfl⟩⟩)
        go_ret
        exact ⟨by (rw [hs2.o]; try rfl), by repeat (first | (with_reducible exact HB2.o) | apply pw_below_drewN | apply below_drew1)⟩
      rw [hq1] at HN HS
      simp only [Bool.true_and] at HS
      clear hq1
      have hma : ∀ nd : Nat, Calls Tryz.prog 70 #[.agg #[.slice (some ad) l0.length c0], .string y.f0] (w3.drewN nd) fun e w' => e = .returned (.int .i64 (modeAtP l0 y.f0)) ∧ Below (w3.drewN nd).heap.size (w3.drewN nd) w' := fun nd => impl_ModeAt.calls (some ad) c0 l0 y.f0 _ _ (Kd.C_below HR.o (pw_below_drewN HB2.o nd)) HC.o rfl
      have HMA := Lib.hid hma
      clear hma
      generalize modeAtP l0 y.f0 = mm at *
      by_cases hq2 : mm = (kk : Int)
      · subst hq2
        have hne0 : ((kk : Int) != (kk : Int)) = false := by simp
        have HW := q_ (impl_within_eq (y.f1.length : Int) 1 40)
        have hd : decide (1 ≤ y.f1.length ∧ y.f1.length ≤ 40) = decide (1 ≤ (y.f1.length : Int) ∧ (y.f1.length : Int) ≤ 40) := decide_eq_decide.2 (by omega)
        rw [hd] at HS
        clear hd
        cases hq3 : decide (1 ≤ (y.f1.length : Int) ∧ (y.f1.length : Int) ≤ 40)
        · rw [hq3] at HS HW
          have hs2 : J0 (gb = false) := ⟨by rw [HS.o]; simp⟩
          clear HS hq3
          go_wp2_with (first | (go_at_call 69; refine (impl_isName.calls kn y.f0 true _ HN.o).mono ?_; rintro e w' ⟨rfl, ⟨nd3, rfl⟩⟩) | (go_at_call 70; refine (HMA.out nd3).mono ?_; rintro e w4 ⟨rfl, hb⟩; have HB4 := q_ (below_step (pw_below_drewN HB2.o nd3) hb); have hc4 : w4.cell? ⟨gm, 1, none⟩ = some (.slice A1 y.f1.length c1) := (blk_cell (blk_below (blk_drewN BM2.o nd3) hb) 1).trans rfl; clear hb) | (go_at_call 71; refine (impl_Rule_71.calls A1 c1 y.f1 _ _ (Kd.C_below HI1.o HB4.o) HC1.o rfl).mono ?_; rintro e w' ⟨rfl, ⟨nd4, rfl⟩⟩) | (go_at_call 56; refine (impl_within.calls _ _ _ false _ HW.o).mono ?_; rintro e w' ⟨rfl, ⟨nd5, rfl⟩⟩))
          go_ret
          exact ⟨by (rw [hs2.o]; try rfl), by repeat (first | (with_reducible exact HB4.o) | apply pw_below_drewN | apply below_drew1)⟩
        rw [hq3] at HS HW
        clear hq3
        have hs0 : J0 (gb = (y.f1.all (ruleB l0) && modesB l0 (kk + 1))) := ⟨by rw [HS.o]; simp⟩
        clear HS
        have hca : ∀ W : World, W.heap[w.heap.size]? = some (.cells #[.slice (some ad) l0.length c0] 31) → Below w.heap.size w W → Calls Tryz.prog 72 #[.slice A1 y.f1.length c1, .func (.func 73) #[] #[.pointer (some ⟨w.heap.size, 0, none⟩)]] W fun e w' => e = .returned (.bool (!y.f1.all (ruleB l0))) ∧ Below W.heap.size W w' := fun W h1 h2 => rules_calls l0 y.f1 (some ad) A1 c0 c1 _ w W HM.o.2.2 HR.o HC.o HI1.o h1 h2
        have HCA := Lib.hid hca
        clear hca
        cases hq4 : y.f1.all (ruleB l0)
        · rw [hq4] at hs0 HCA
          have hs2 : J0 (gb = false) := ⟨by rw [hs0.o]; rfl⟩
          clear hs0 hq4
          go_wp2_with (first | (go_at_call 69; refine (impl_isName.calls kn y.f0 true _ HN.o).mono ?_; rintro e w' ⟨rfl, ⟨nd3, rfl⟩⟩) | (go_at_call 70; refine (HMA.out nd3).mono ?_; rintro e w4 ⟨rfl, hb⟩; have HB4 := q_ (below_step (pw_below_drewN HB2.o nd3) hb); have BK4 := q_ (blk_below (blk_drewN BK2.o nd3) hb); have hc4 : w4.cell? ⟨gm, 1, none⟩ = some (.slice A1 y.f1.length c1) := (blk_cell (blk_below (blk_drewN BM2.o nd3) hb) 1).trans rfl; clear hb) | (go_at_call 71; refine (impl_Rule_71.calls A1 c1 y.f1 _ _ (Kd.C_below HI1.o HB4.o) HC1.o rfl).mono ?_; rintro e w' ⟨rfl, ⟨nd4, rfl⟩⟩) | (go_at_call 56; refine (impl_within.calls _ _ _ true _ HW.o).mono ?_; rintro e w' ⟨rfl, ⟨nd5, rfl⟩⟩) | (go_at_call 72; refine (HCA.out _ (blk_drewN BK4.o _) (pw_below_drewN HB4.o _)).mono ?_; rintro e w5 ⟨rfl, hb⟩; have HB5 := q_ (below_step (pw_below_drewN HB4.o _) hb); clear hb))
          go_ret
          exact ⟨by (rw [hs2.o]; try rfl), by repeat (first | (with_reducible exact HB5.o) | apply pw_below_drewN | apply below_drew1)⟩
        · rw [hq4] at hs0 HCA
          have hs2 : J0 (gb = modesB l0 (kk + 1)) := ⟨by rw [hs0.o]; rfl⟩
          clear hs0 hq4
          go_wp2_with (first | (go_at_call 69; refine (impl_isName.calls kn y.f0 true _ HN.o).mono ?_; rintro e w' ⟨rfl, ⟨nd3, rfl⟩⟩) | (go_at_call 70; refine (HMA.out nd3).mono ?_; rintro e w4 ⟨rfl, hb⟩; have HB4 := q_ (below_step (pw_below_drewN HB2.o nd3) hb); have BK4 := q_ (blk_below (blk_drewN BK2.o nd3) hb); have hc4 : w4.cell? ⟨gm, 1, none⟩ = some (.slice A1 y.f1.length c1) := (blk_cell (blk_below (blk_drewN BM2.o nd3) hb) 1).trans rfl; clear hb) | (go_at_call 71; refine (impl_Rule_71.calls A1 c1 y.f1 _ _ (Kd.C_below HI1.o HB4.o) HC1.o rfl).mono ?_; rintro e w' ⟨rfl, ⟨nd4, rfl⟩⟩) | (go_at_call 56; refine (impl_within.calls _ _ _ true _ HW.o).mono ?_; rintro e w' ⟨rfl, ⟨nd5, rfl⟩⟩) | (go_at_call 72; refine (HCA.out _ (blk_drewN BK4.o _) (pw_below_drewN HB4.o _)).mono ?_; rintro e w5 ⟨rfl, hb⟩; have BK5 := q_ (blk_below (blk_drewN BK4.o _) hb); have HB5 := q_ (below_step (pw_below_drewN HB4.o _) hb); clear hb))
          go_roundg (l0.length - (kk + 1))
          case measure => omega
          case rel => exact ⟨kk + 1, by omega, by omega, by go_num, hs2, ⟨BK5.o⟩, ⟨HB5.o⟩⟩
      · have hne1 : (mm != (kk : Int)) = true := by simpa using hq2
        have hs2 : J0 (gb = false) := ⟨by rw [HS.o, decide_eq_false hq2]; rfl⟩
        clear HS hq2
        go_wp2_with (first | (go_at_call 69; refine (impl_isName.calls kn y.f0 true _ HN.o).mono ?_; rintro e w' ⟨rfl, ⟨nd3, rfl⟩⟩) | (go_at_call 70; refine (HMA.out nd3).mono ?_; rintro e w4 ⟨rfl, hb⟩; have HB4 := q_ (below_step (pw_below_drewN HB2.o nd3) hb); clear hb))
        go_ret
        exact ⟨by (rw [hs2.o]; try rfl), by repeat (first | (with_reducible exact HB4.o) | apply pw_below_drewN | apply below_drew1)⟩
    · have hltz : ¬ (kk : Int) < (l0.length : Int) := by omega
      have hk : kk = l0.length := by omega
      have hs2 : J0 (gb = true) := ⟨by rw [HA.o, hk, modesB_end]⟩
      clear hk HA
      go_wp2
      go_ret
      exact ⟨by (rw [hs2.o]; try rfl), HB.o⟩
end Go.Proofs.YtijmhelacmjggaaGreat.P
namespace Go.Proofs.YtijmhelacmjggaaGreat.P
open Go.RowKit Go.Proofs.YtijmhelacmjggaaGreatW.PrintWords Go.Proofs.YtijmhelacmjggaaGreatW.PrintLast Go.Proofs.YtijmhelacmjggaaGreatW.PrintMore
attribute [local go_sem] max2_int min2_int max_two min_two max_three min_three max_four min_four
set_option linter.unusedVariables false
set_option linter.unusedSimpArgs false
/-! ### impl_GrammarOk: function 42 -/
def smallRB (x : S64) : Bool := decide (x.f0.size ≤ 1048576) && (decide (x.f1.f0.length ≤ 1048576) && x.f1.f0.all fun y => decide (y.f2.length ≤ 9223372036854775807))
def smallMB (m : S62) : Bool := decide (m.f0.size ≤ 1048576) && (decide (m.f1.length ≤ 1048576) && m.f1.all smallRB)
def smallGB (g : List (S62)) : Bool := decide (g.length ≤ 1048576) && g.all smallMB
theorem smallG_iff (g : List (S62)) : smallGB g = true ↔ smallG g := by
  simp only [smallGB, smallMB, smallRB, smallG, smallM, smallR, Bool.and_eq_true, decide_eq_true_eq, List.all_eq_true]
def impl_GrammarOk.f (l0_0 : List (S62)) : Option (Bool) := if smallGB l0_0 = true then some (grammarB l0_0) else none
theorem impl_GrammarOk.calls (A0_0 : Option Addr) (c0_0 : Nat) (l0_0 : List (S62)) (r : Bool) (w : World) (hr0_0 : Kd.C k62 w A0_0 l0_0.length l0_0) (hc0_0 : l0_0.length ≤ c0_0) (h : impl_GrammarOk.f l0_0 = some r) :
    Calls Tryz.prog 42 #[.agg #[.slice A0_0 l0_0.length c0_0]] w fun e w' => e = .returned (.bool r) ∧ Below w.heap.size w w' := by
  unfold impl_GrammarOk.f at h
  by_cases hp : smallGB l0_0 = true
  · rw [if_pos hp] at h
    obtain rfl := Option.some.inj h
    exact GrammarOk_hand A0_0 c0_0 l0_0 w ((smallG_iff l0_0).1 hp) hr0_0 hc0_0
  · rw [if_neg hp] at h
    exact absurd h (by simp)
end Go.Proofs.YtijmhelacmjggaaGreat.P
namespace Go.Proofs.YtijmhelacmjggaaGreat.P
open Go.RowKit Go.Proofs.YtijmhelacmjggaaGreatW.PrintWords Go.Proofs.YtijmhelacmjggaaGreatW.PrintLast Go.Proofs.YtijmhelacmjggaaGreatEv
set_option linter.unusedVariables false
set_option linter.unusedSimpArgs false
theorem smallR_of (x : S144) (hw : wRule x ≤ 1048576) (hg : g144 x) : smallR (cRule x) := by
  have e : x.f0.size + (x.f1.f0.length + ws wRNode x.f1.f0) + x.f4.size ≤ 1048576 := hw
  refine ⟨by show x.f0.size ≤ _; omega, by show (x.f1.f0.map cRNode).length ≤ _; rw [List.length_map]; omega, fun y hy => ?_⟩
  obtain ⟨z, hz, rfl⟩ := List.mem_map.1 (show y ∈ x.f1.f0.map cRNode from hy)
  exact (hRNode_of_g (hg.2.1.2 z hz)).2
theorem smallM_of (x : S91) (hw : wMode x ≤ 1048576) (hg : g91 x) : smallM (cMode x) := by
  have e : x.f0.size + (x.f1.length + ws wRule x.f1) ≤ 1048576 := hw
  refine ⟨by show x.f0.size ≤ _; omega, by show (x.f1.map cRule).length ≤ _; rw [List.length_map]; omega, fun y hy => ?_⟩
  obtain ⟨z, hz, rfl⟩ := List.mem_map.1 (show y ∈ x.f1.map cRule from hy)
  have := ws_mem wRule _ z hz
  exact smallR_of z (by omega) (hg.2.2 z hz)
theorem smallG_of (l : List S91) (hw : l.length + ws wMode l ≤ 1048576) (hg : ∀ y ∈ l, g91 y) : smallG (l.map cMode) := by
  refine ⟨by rw [List.length_map]; omega, fun y hy => ?_⟩
  obtain ⟨z, hz, rfl⟩ := List.mem_map.1 hy
  have := ws_mem wMode _ z hz
  exact smallM_of z (by omega) (hg z hz)
theorem hMode_all (l : List S91) (hg : ∀ y ∈ l, g91 y) : ∀ x ∈ l.map cMode, h62 x := fun y hy => by
  obtain ⟨z, hz, rfl⟩ := List.mem_map.1 hy
  exact hMode_of_g (hg z hz)
theorem impl_GrammarOk_eq (g : List S62) (h : smallG g) : impl_GrammarOk.f g = some (grammarB g) := if_pos ((smallG_iff g).2 h)
end Go.Proofs.YtijmhelacmjggaaGreat.P
namespace Go.Proofs.YtijmhelacmjggaaGreat.P
open Go.RowKit Go.Proofs.YtijmhelacmjggaaGreatW.PrintWords Go.Proofs.YtijmhelacmjggaaGreatW.PrintLast Go.Proofs.YtijmhelacmjggaaGreatW.PrintMore
attribute [local go_sem] max2_int min2_int max_two min_two max_three min_three max_four min_four
set_option linter.unusedVariables false
set_option linter.unusedSimpArgs false
/-! ### spec_l9Mode: function 24 -/
def spec_l9Mode.f (k : Nat) (l0_0 : List (S62)) (a1 : Int) : Option (Bool) := (spec_GrammarOk.f k l0_0).bind fun t102 => (if t102 = true then ((spec_l1In.f a1 0 (wrap64 ((l0_0.length : Int) - 1))).bind fun t103 => (some t103)) else (some false))
theorem spec_l9Mode.calls (k : Nat) (A0_0 : Option Addr) (c0_0 : Nat) (l0_0 : List (S62)) (a1 : Int) (r : Bool) (w : World) (hr0_0 : Kd.C k62 w A0_0 l0_0.length l0_0) (hc0_0 : l0_0.length ≤ c0_0) (h : spec_l9Mode.f k l0_0 a1 = some r) :
  Calls Tryz.prog 24 #[.agg #[.slice A0_0 l0_0.length c0_0], .int .i64 a1] w fun e w' => e = .returned (.bool r) ∧ Below w.heap.size w w' := by
 have hu31 := Tryz.underlying31; have HR0_0 := q_ hr0_0; have HC0_0 := q_ hc0_0; clear hr0_0 hc0_0; have HB := q_ (Below.refl w.heap.size w)
 have H : ((spec_GrammarOk.f k l0_0).bind fun t102 => (if t102 = true then ((spec_l1In.f a1 0 (wrap64 ((l0_0.length : Int) - 1))).bind fun t103 => (some t103)) else (some false))) = some r := h
 clear h; obtain ⟨t102, A3, H⟩ := ob_ H
 by_cases c4 : t102 = true
 ·subst c4; rw [if_pos rfl] at H; obtain ⟨t103, A5, H⟩ := ob_ H; obtain rfl := Option.some.inj H
  go_enter Tryz.func24, Tryz.ntmps24
  go_wp2_with (first | ((with_reducible refine gate_dst (N := 2) rfl ?_); (try (refine gate_guard (by rfl) ?_; dsimp only)); refine bx_ 2 #[.slice A0_0 l0_0.length c0_0] 31 ?_; intro gb101 hg w6 hbox hb; have BK101 := q_ (hbox); have GE101 := ge_ hg HB; replace HB := sb_ HB hb; clear hb hbox hg; obtain ⟨hcz7_0, hfz7_0⟩ := d1_ BK101) | ((with_reducible refine gate_callee (f := 36) rfl ?_); refine gl_ (some 6) rfl rfl Tryz.func36 #[.agg #[.slice A0_0 l0_0.length c0_0]] ?_; (with_reducible refine (spec_GrammarOk.calls k _ _ l0_0 true _ ?side1 ?side2 A3.o).mono ?_); (case side1 => exact Kd.C_below HR0_0.o (be_ HB.o)); (case side2 => exact HC0_0.o); rintro e w8 ⟨rfl, hb⟩; refine ⟨_, rfl, ?_⟩; replace BK101 := lb_ BK101 hb; replace HB := sb1_ HB GE101 hb; (try clear hb); obtain ⟨hcz9_0, hfz9_0⟩ := d1_ BK101) | (go_at_call 51; (with_reducible refine (spec_l1In.calls a1 0 (wrap64 ((l0_0.length : Int) - 1)) t103 _ A5.o).mono ?_); rintro e w' ⟨rfl, ⟨nd, rfl⟩⟩))
  go_ret
  exact ⟨rt_, be1_ HB.o GE101.o⟩
 ·replace c4 := Bool.eq_false_iff.mpr c4; subst c4; rw [if_neg nft_] at H; obtain rfl := Option.some.inj H
  go_enter Tryz.func24, Tryz.ntmps24
  go_wp2_with (first | ((with_reducible refine gate_dst (N := 2) rfl ?_); (try (refine gate_guard (by rfl) ?_; dsimp only)); refine bx_ 2 #[.slice A0_0 l0_0.length c0_0] 31 ?_; intro gb101 hg w10 hbox hb; have BK101 := q_ (hbox); have GE101 := ge_ hg HB; replace HB := sb_ HB hb; clear hb hbox hg; obtain ⟨hcz11_0, hfz11_0⟩ := d1_ BK101) | ((with_reducible refine gate_callee (f := 36) rfl ?_); refine gl_ (some 6) rfl rfl Tryz.func36 #[.agg #[.slice A0_0 l0_0.length c0_0]] ?_; (with_reducible refine (spec_GrammarOk.calls k _ _ l0_0 false _ ?side1 ?side2 A3.o).mono ?_); (case side1 => exact Kd.C_below HR0_0.o (be_ HB.o)); (case side2 => exact HC0_0.o); rintro e w12 ⟨rfl, hb⟩; refine ⟨_, rfl, ?_⟩; replace BK101 := lb_ BK101 hb; replace HB := sb1_ HB GE101 hb; (try clear hb)))
  go_ret
  exact ⟨rt_, be1_ HB.o GE101.o⟩
/-! ### spec_NameOf: function 38 -/
def spec_NameOf.j0 : Nat → Bool → List (S62) → Int → Int → Int → Int → Int → Int → Option (ByteArray)
 | 0, _, _, _, _, _, _, _, _ => none
 | k + 1, x24, x102000, x103000, x103001, x103002, x103003, x103004, x103005 => if x24 = true then (some (⟨#[]⟩ : ByteArray)) else (if x103001 < 0 then (some (⟨#[101, 114, 114, 111, 114]⟩ : ByteArray)) else (if 0 ≤ x103000 then (if x103000 < (x102000.length : Int) then (if 0 ≤ x103001 then (if x103001 < (((rd_T62 x102000 x103000).f1).length : Int) then (some ((rd_T64 ((rd_T62 x102000 x103000).f1) x103001).f0)) else (none)) else (none)) else (none)) else (none)))
def spec_NameOf.f (k : Nat) (l0_0 : List (S62)) (a1_0 : Int) (a1_1 : Int) (a1_2 : Int) (a1_3 : Int) (a1_4 : Int) (a1_5 : Int) : Option (ByteArray) := (spec_l9Mode.f k l0_0 a1_0).bind fun t103 => (if t103 = true then (if 0 ≤ a1_0 then (if a1_0 < (l0_0.length : Int) then ((spec_l1In.f a1_1 (-1) (wrap64 ((((rd_T62 l0_0 a1_0).f1).length : Int) - 1))).bind fun t105 => (spec_NameOf.j0 k (!t105) l0_0 a1_0 a1_1 a1_2 a1_3 a1_4 a1_5)) else (none)) else (none)) else (spec_NameOf.j0 k true l0_0 a1_0 a1_1 a1_2 a1_3 a1_4 a1_5))
def spec_NameOf.T1 : Bool × List (List Nat × List Nat) := (true, [([], []), ([], []), ([1], [1]), ([0, 2], [0, 2]), ([3], [3]), ([4, 3], [4]), ([5], [5]), ([6, 5], [5, 6]), ([5], [5]), ([8, 5], [5, 8]), ([5], [5]), ([10, 5], [5, 10]), ([9, 11, 5], [5, 9, 11]), ([12, 5], [5, 12]), ([13, 5], [5, 13]), ([14, 5], [5, 14]), ([15, 5], [5, 15]), ([7, 16, 5, 5], [5, 7, 16]), ([17, 5], [5, 17]), ([5, 18], [5, 18])])
def spec_NameOf.B1 : List Nat := [0, 0, 2, 7, 15, 31, 63, 127, 63, 319, 63, 1087, 3903, 7999, 16191, 32575, 65343, 131071, 262143, 524287]
theorem spec_NameOf.tab1 : rtab .any (opsOf Tryz.f38 1) = spec_NameOf.T1 := by kernel_rfl
theorem spec_NameOf.bits1 : waitsOk spec_NameOf.T1.2 spec_NameOf.B1 = true := by kernel_rfl
def spec_NameOf.T5 : Bool × List (List Nat × List Nat) := (true, [([], []), ([0], [0]), ([], []), ([2], [2]), ([1, 3], [1, 3]), ([4], [4]), ([5], [5]), ([], []), ([7], [7]), ([6, 8], [6, 8]), ([9], [9]), ([10], [10]), ([11, 0, 1, 2, 3, 4, 5, 6, 7, 8, 9, 10, 11], [11])])
def spec_NameOf.B5 : List Nat := [0, 1, 0, 4, 15, 31, 63, 0, 128, 511, 1023, 2047, 4095]
theorem spec_NameOf.tab5 : rtab .any (opsOf Tryz.f38 5) = spec_NameOf.T5 := by kernel_rfl
theorem spec_NameOf.bits5 : waitsOk spec_NameOf.T5.2 spec_NameOf.B5 = true := by kernel_rfl
theorem spec_NameOf.calls (k : Nat) (A0_0 : Option Addr) (c0_0 : Nat) (l0_0 : List (S62)) (a1_0 : Int) (a1_1 : Int) (a1_2 : Int) (a1_3 : Int) (a1_4 : Int) (a1_5 : Int) (r : ByteArray) (w : World) (hr0_0 : Kd.C k62 w A0_0 l0_0.length l0_0) (hc0_0 : l0_0.length ≤ c0_0) (h : spec_NameOf.f k l0_0 a1_0 a1_1 a1_2 a1_3 a1_4 a1_5 = some r) :
  Calls Tryz.prog 38 #[.agg #[.slice A0_0 l0_0.length c0_0], .agg #[.int .i64 a1_0, .int .i64 a1_1, .int .i64 a1_2, .int .i64 a1_3, .int .i64 a1_4, .int .i64 a1_5]] w fun e w' => e = .returned (.string r) ∧ Below w.heap.size w w' := by
 have hu31 := Tryz.underlying31; have hu76 := Tryz.underlying76; have HR0_0 := q_ hr0_0; have HC0_0 := q_ hc0_0; clear hr0_0 hc0_0; have HB := q_ (Below.refl w.heap.size w)
 have H : ((spec_l9Mode.f k l0_0 a1_0).bind fun t103 => (if t103 = true then (if 0 ≤ a1_0 then (if a1_0 < (l0_0.length : Int) then ((spec_l1In.f a1_1 (-1) (wrap64 ((((rd_T62 l0_0 a1_0).f1).length : Int) - 1))).bind fun t105 => (spec_NameOf.j0 k (!t105) l0_0 a1_0 a1_1 a1_2 a1_3 a1_4 a1_5)) else (none)) else (none)) else (spec_NameOf.j0 k true l0_0 a1_0 a1_1 a1_2 a1_3 a1_4 a1_5))) = some r := h
 clear h; have HC3 := q_ H; clear H
 go_enter Tryz.func38, Tryz.ntmps38
 go_upto_region 1 with (first | ((with_reducible refine gate_dst (N := 2) rfl ?_); (try (refine gate_guard (by rfl) ?_; dsimp only)); refine bx_ 2 #[.slice A0_0 l0_0.length c0_0] 31 ?_; intro gb101 hg w4 hbox hb; have BK101 := q_ (hbox); have GE101 := ge_ hg HB; replace HB := sb_ HB hb; clear hb hbox hg) | ((with_reducible refine gate_dst (N := 3) rfl ?_); (try (refine gate_guard (by rfl) ?_; dsimp only)); refine bx_ 3 #[.int .i64 a1_0, .int .i64 a1_1, .int .i64 a1_2, .int .i64 a1_3, .int .i64 a1_4, .int .i64 a1_5] 76 ?_; intro gb102 hg w5 hbox hb; have BK102 := q_ (hbox); have GE102 := ge1_ hg HB GE101; have NB101_102 := nl_ hg BK101; have NB102_101 := ng_ hg BK101; replace BK101 := lb_ BK101 hb; replace HB := sb1_ HB GE101 hb; clear hb hbox hg))
 (try simp only [Act.put, List.setIfInBounds_toArray, List.set_cons_zero, List.set_cons_succ])
 go_cut [24] (fun v24 wc => ∃ (kq : Nat) (x24_2 : Bool), v24 = .bool x24_2 ∧ J0 (spec_NameOf.j0 kq x24_2 l0_0 a1_0 a1_1 a1_2 a1_3 a1_4 a1_5 = some r) ∧ J0 (kq ≤ k) ∧ J0 (wc.heap[gb101]? = some (.cells #[(.slice A0_0 l0_0.length c0_0)] 31 (0, 0))) ∧ J0 (wc.heap[gb102]? = some (.cells #[.int .i64 a1_0, .int .i64 a1_1, .int .i64 a1_2, .int .i64 a1_3, .int .i64 a1_4, .int .i64 a1_5] 76 (0, 0))) ∧ J0 (Below w.heap.size w wc))
 case first =>
  have H := HC3.o; clear HC3; obtain ⟨t103, A6, H⟩ := ob_ H
  by_cases c7 : t103 = true
  ·subst c7; rw [if_pos rfl] at H
   by_cases c8 : 0 ≤ a1_0
   ·rw [if_pos c8] at H; have c8b0 := dt_ c8; clear c8
    (first | rw [c8b0] | (simp only [i64_w, i32_w]; rw [c8b0]) | skip)
    by_cases c9 : a1_0 < (l0_0.length : Int)
    ·rw [if_pos c9] at H; have c9b0 := dt_ c9; clear c9; obtain ⟨t105, A10, H⟩ := ob_ H
     have H' := q_ H
     clear H
     try go_wp2
     replace BK101 := q_ (blk_drew BK101.o); replace BK102 := q_ (blk_drew BK102.o); replace HB := q_ (below_drew1 HB.o)
     have p104 : 0 ≤ (a1_0 : Int) := of_decide_eq_true as_
     have q104 : a1_0 < (l0_0.length : Int) := of_decide_eq_true as_
     obtain ⟨ad104, A104_1, c104_1, e104, hx104_0, hx104_1, hl104_1, hi104_1⟩ := at_T62 HR0_0.o a1_0 p104 q104; have hw104_1 := hx104_1; have hw104_0 := hx104_0
     cases e104
     replace hx104_0 := mv_ HB.o hx104_0; replace hx104_1 := mv_ HB.o hx104_1; have HR104_1 := q_ hi104_1; have HC104_1 := q_ hl104_1; clear hi104_1 hl104_1; replace p104 := eq_true p104; replace q104 := eq_true q104
     refine start_ (n := 20) (S := fun w' => w'.cell? ⟨gb101, 0, none⟩ = some (.slice (some ad104) l0_0.length c0_0) ∧ w'.cell? ⟨gb102, 0, none⟩ = some (.int .i64 a1_0) ∧ w'.cell? ⟨gb102, 1, none⟩ = some (.int .i64 a1_1) ∧ w'.cell? ⟨gb102, 2, none⟩ = some (.int .i64 a1_2) ∧ w'.cell? ⟨gb102, 3, none⟩ = some (.int .i64 a1_3) ∧ w'.cell? ⟨gb102, 4, none⟩ = some (.int .i64 a1_4) ∧ w'.cell? ⟨gb102, 5, none⟩ = some (.int .i64 a1_5) ∧ w'.cell? (ad104.add ((a1_0).toNat * 2)) = some (.string ((rd_T62 l0_0 a1_0).f0)) ∧ w'.cell? ⟨(ad104.add ((a1_0).toNat * 2)).block, (ad104.add ((a1_0).toNat * 2)).off + 1, none⟩ = some (.slice A104_1 ((rd_T62 l0_0 a1_0).f1).length c104_1)) (ds := []) (bb 20 0) (by kernel_rfl) rfl rfl ⟨(blk_cell BK101.o 0).trans rfl, (blk_cell BK102.o 0).trans rfl, (blk_cell BK102.o 1).trans rfl, (blk_cell BK102.o 2).trans rfl, (blk_cell BK102.o 3).trans rfl, (blk_cell BK102.o 4).trans rfl, (blk_cell BK102.o 5).trans rfl, (mv_ HB.o hw104_0), (mv_ HB.o hw104_1)⟩ (fun hHeld => ?_); refine with_tabW spec_NameOf.tab1 spec_NameOf.bits1 (fun HT_ HW_ => ?_)
     generalize w5.drew = w11 at BK101 BK102 HB HR104_1 hx104_0 hx104_1 hHeld ⊢
     refine pv_ 1 6 2 HT_.o ?_; refine tv_ 0 5 3 HT_.o HW_.o hHeld ?_; refine tv_ 2 7 7 HT_.o HW_.o hHeld ?_
     refine one_ (i := 3) (N := some 8) (bb 20 15) rfl rfl (one_of HT_.o (by kernel_rfl)) (by decide) (fun K hK => ?_)
     refine gs_ Tryz.func24 #[.agg #[.slice (some ad104) l0_0.length c0_0], .int .i64 a1_0] ?_
     with_reducible refine (spec_l9Mode.calls k _ _ l0_0 a1_0 true _ ?side1 ?side2 A6.o).mono ?_
     (case side1 => exact Kd.C_below HR0_0.o (be_ HB.o))
     (case side2 => exact HC0_0.o)
     rintro e w12 ⟨rfl, hb⟩
     refine ⟨_, rfl, ?_⟩; replace BK101 := lb_ BK101 hb; replace BK102 := lb_ BK102 hb; replace HB := sb2_ HB GE101 GE102 hb
     (try clear hb)
     (try clear hb2)
     (try clear hk)
     (try clear hi)
     refine hK.out _ _ ⟨(blk_cell BK101.o 0).trans rfl, (blk_cell BK102.o 0).trans rfl, (blk_cell BK102.o 1).trans rfl, (blk_cell BK102.o 2).trans rfl, (blk_cell BK102.o 3).trans rfl, (blk_cell BK102.o 4).trans rfl, (blk_cell BK102.o 5).trans rfl, (mv_ HB.o hw104_0), (mv_ HB.o hw104_1)⟩ (fun hHeld => ?_)
     clear hK K; refine no_ (some 8) ?_; refine pv_ 4 9 31 HT_.o ?_; refine pv_ 5 10 63 HT_.o ?_; refine pv_ 6 11 127 HT_.o ?_; refine pv_ 8 13 383 HT_.o ?_; refine pv_ 10 15 1407 HT_.o ?_; refine tv_ 7 12 1535 HT_.o HW_.o hHeld ?_; refine tv_ 9 14 2047 HT_.o HW_.o hHeld ?_; refine tv_ 11 16 4095 HT_.o HW_.o hHeld ?_; refine pv_ 12 17 8191 HT_.o ?_; refine pv_ 13 18 16383 HT_.o ?_; refine tv_ 14 19 32767 HT_.o HW_.o hHeld ?_; refine pv_ 15 20 65535 HT_.o ?_; refine pv_ 16 21 131071 HT_.o ?_
     refine one_ (i := 17) (N := some 22) (bb 20 262143) rfl rfl (one_of HT_.o (by kernel_rfl)) (by decide) (fun K hK => ?_)
     refine gs_ Tryz.func51 #[.int .i64 a1_1, .int .i64 (-1), .int .i64 (wrap64 ((((rd_T62 l0_0 a1_0).f1).length : Int) - 1))] ?_
     with_reducible refine (spec_l1In.calls a1_1 (-1) (wrap64 ((((rd_T62 l0_0 a1_0).f1).length : Int) - 1)) t105 _ A10.o).mono ?_
     rintro e w' ⟨rfl, ⟨nd, rfl⟩⟩; refine ⟨_, rfl, ?_⟩
     refine hK.out _ _ ⟨(blk_cell BK101.o 0).trans rfl, (blk_cell BK102.o 0).trans rfl, (blk_cell BK102.o 1).trans rfl, (blk_cell BK102.o 2).trans rfl, (blk_cell BK102.o 3).trans rfl, (blk_cell BK102.o 4).trans rfl, (blk_cell BK102.o 5).trans rfl, (mv_ HB.o hw104_0), (mv_ HB.o hw104_1)⟩ (fun hHeld => ?_)
     clear hK K; refine no_ (some 22) ?_; refine pv_ 18 23 524287 HT_.o ?_; refine pv_ 19 24 1048575 HT_.o ?_
     refine done_ (done_of HT_.o (by kernel_rfl)) ?_
     try go_wp2
     go_meet
     case rel => exact ⟨_, (!t105), rs_, H', ⟨by first | omega | exact Nat.le_refl _⟩, ⟨bk_ BK101.o⟩, ⟨bk_ BK102.o⟩, ⟨be2_ HB.o GE101.o GE102.o⟩⟩
    ·rw [if_neg c9] at H
     exact absurd H (by simp)
   ·rw [if_neg c8] at H
    exact absurd H (by simp)
  ·replace c7 := Bool.eq_false_iff.mpr c7; subst c7; rw [if_neg nft_] at H
   have H' := q_ H
   clear H
   try go_wp2
   replace BK101 := q_ (blk_drew BK101.o); replace BK102 := q_ (blk_drew BK102.o); replace HB := q_ (below_drew1 HB.o)
   refine start_ (n := 20) (S := fun w' => w'.cell? ⟨gb101, 0, none⟩ = some (.slice A0_0 l0_0.length c0_0) ∧ w'.cell? ⟨gb102, 0, none⟩ = some (.int .i64 a1_0) ∧ w'.cell? ⟨gb102, 1, none⟩ = some (.int .i64 a1_1) ∧ w'.cell? ⟨gb102, 2, none⟩ = some (.int .i64 a1_2) ∧ w'.cell? ⟨gb102, 3, none⟩ = some (.int .i64 a1_3) ∧ w'.cell? ⟨gb102, 4, none⟩ = some (.int .i64 a1_4) ∧ w'.cell? ⟨gb102, 5, none⟩ = some (.int .i64 a1_5)) (ds := []) (bb 20 0) (by kernel_rfl) rfl rfl ⟨(blk_cell BK101.o 0).trans rfl, (blk_cell BK102.o 0).trans rfl, (blk_cell BK102.o 1).trans rfl, (blk_cell BK102.o 2).trans rfl, (blk_cell BK102.o 3).trans rfl, (blk_cell BK102.o 4).trans rfl, (blk_cell BK102.o 5).trans rfl⟩ (fun hHeld => ?_); refine with_tabW spec_NameOf.tab1 spec_NameOf.bits1 (fun HT_ HW_ => ?_)
   generalize w5.drew = w13 at BK101 BK102 HB hHeld ⊢
   refine pv_ 1 6 2 HT_.o ?_; refine tv_ 0 5 3 HT_.o HW_.o hHeld ?_; refine tv_ 2 7 7 HT_.o HW_.o hHeld ?_
   refine one_ (i := 3) (N := some 8) (bb 20 15) rfl rfl (one_of HT_.o (by kernel_rfl)) (by decide) (fun K hK => ?_)
   refine gs_ Tryz.func24 #[.agg #[.slice A0_0 l0_0.length c0_0], .int .i64 a1_0] ?_
   with_reducible refine (spec_l9Mode.calls k _ _ l0_0 a1_0 false _ ?side1 ?side2 A6.o).mono ?_
   (case side1 => exact Kd.C_below HR0_0.o (be_ HB.o))
   (case side2 => exact HC0_0.o)
   rintro e w14 ⟨rfl, hb⟩
   refine ⟨_, rfl, ?_⟩; replace BK101 := lb_ BK101 hb; replace BK102 := lb_ BK102 hb; replace HB := sb2_ HB GE101 GE102 hb
   (try clear hb)
   (try clear hb2)
   (try clear hk)
   (try clear hi)
   refine hK.out _ _ ⟨(blk_cell BK101.o 0).trans rfl, (blk_cell BK102.o 0).trans rfl, (blk_cell BK102.o 1).trans rfl, (blk_cell BK102.o 2).trans rfl, (blk_cell BK102.o 3).trans rfl, (blk_cell BK102.o 4).trans rfl, (blk_cell BK102.o 5).trans rfl⟩ (fun hHeld => ?_)
   clear hK K; refine no_ (some 8) ?_; refine pv_ 4 9 31 HT_.o ?_; refine pv_ 5 10 63 HT_.o ?_; refine pw_ 6 (some 11) (bb 20 127) HT_.o ?_; refine pw_ 7 (some 12) (bb 20 255) HT_.o ?_; refine pw_ 8 (some 13) (bb 20 511) HT_.o ?_; refine pw_ 9 (some 14) (bb 20 1023) HT_.o ?_; refine pw_ 10 (some 15) (bb 20 2047) HT_.o ?_; refine pw_ 11 (some 16) (bb 20 4095) HT_.o ?_; refine pw_ 12 (some 17) (bb 20 8191) HT_.o ?_; refine pw_ 13 (some 18) (bb 20 16383) HT_.o ?_; refine pw_ 14 (some 19) (bb 20 32767) HT_.o ?_; refine pw_ 15 (some 20) (bb 20 65535) HT_.o ?_; refine pw_ 16 (some 21) (bb 20 131071) HT_.o ?_; refine pw_ 17 (some 22) (bb 20 262143) HT_.o ?_; refine pw_ 18 (some 23) (bb 20 524287) HT_.o ?_; refine pv_ 19 24 1048575 HT_.o ?_
   refine done_ (done_of HT_.o (by kernel_rfl)) ?_
   try go_wp2
   go_meet
   case rel => exact ⟨_, (true), rs_, H', ⟨by first | omega | exact Nat.le_refl _⟩, ⟨bk_ BK101.o⟩, ⟨bk_ BK102.o⟩, ⟨be2_ HB.o GE101.o GE102.o⟩⟩
 case rest =>
  clear HC3; (try clear c7); (try clear c8); (try clear c8b0); (try clear c9); (try clear c9b0); (try clear hx104_0); (try clear hx104_1); (try clear p104); (try clear q104); obtain ⟨kq, x24_2, rfl, HA, HJ2, BK101, BK102, HB⟩ := hcut
  cases kq with
  | zero => exact absurd HA.o (by simp [spec_NameOf.j0])
  | succ kj2 =>
   have H := HA.o; clear HA
   simp only [spec_NameOf.j0] at H
   by_cases c15 : x24_2 = true
   ·subst c15; rw [if_pos rfl] at H; obtain rfl := Option.some.inj H
    go_wp2
    go_ret
    exact ⟨rt_, be2_ HB.o GE101.o GE102.o⟩
   ·replace c15 := Bool.eq_false_iff.mpr c15; subst c15; rw [if_neg nft_] at H
    by_cases c16 : a1_1 < 0
    ·rw [if_pos c16] at H; have c16b0 := dt_ c16; clear c16; obtain rfl := Option.some.inj H; have hnb17 := NB102_101.o; have hnc17 := NB101_102.o; obtain ⟨hcz18_0, hcz18_1, hcz18_2, hcz18_3, hcz18_4, hcz18_5, hfz18_0, hfz18_1, hfz18_2, hfz18_3, hfz18_4, hfz18_5⟩ := d6_ BK102
     go_wp2
     go_ret
     exact ⟨rt_, be2_ HB.o GE101.o GE102.o⟩
    ·rw [if_neg c16] at H; have c16b0 := df_ c16; clear c16
     by_cases c19 : 0 ≤ a1_0
     ·rw [if_pos c19] at H; have c19b0 := dt_ c19; clear c19
      by_cases c20 : a1_0 < (l0_0.length : Int)
      ·rw [if_pos c20] at H; have c20b0 := dt_ c20; clear c20
       by_cases c21 : 0 ≤ a1_1
       ·rw [if_pos c21] at H; have c21b0 := dt_ c21; clear c21
        by_cases c22 : a1_1 < (((rd_T62 l0_0 a1_0).f1).length : Int)
        ·rw [if_pos c22] at H; have c22b0 := dt_ c22; clear c22; obtain rfl := Option.some.inj H; have hnb23 := NB102_101.o; have hnc23 := NB101_102.o; obtain ⟨hcz24_0, hcz24_1, hcz24_2, hcz24_3, hcz24_4, hcz24_5, hfz24_0, hfz24_1, hfz24_2, hfz24_3, hfz24_4, hfz24_5⟩ := d6_ BK102
         try go_wp2
         replace BK101 := q_ (blk_drew BK101.o); replace BK102 := q_ (blk_drew BK102.o); replace HB := q_ (below_drew1 HB.o)
         have p106 : 0 ≤ (a1_0 : Int) := of_decide_eq_true as_
         have q106 : a1_0 < (l0_0.length : Int) := of_decide_eq_true as_
         obtain ⟨ad106, A106_1, c106_1, e106, hx106_0, hx106_1, hl106_1, hi106_1⟩ := at_T62 HR0_0.o a1_0 p106 q106; have hw106_1 := hx106_1; have hw106_0 := hx106_0
         cases e106
         replace hx106_0 := mv_ HB.o hx106_0; replace hx106_1 := mv_ HB.o hx106_1; have HR106_1 := q_ hi106_1; have HC106_1 := q_ hl106_1; clear hi106_1 hl106_1; replace p106 := eq_true p106; replace q106 := eq_true q106
         have p107 : 0 ≤ (a1_1 : Int) := of_decide_eq_true as_
         have q107 : a1_1 < (((rd_T62 l0_0 a1_0).f1).length : Int) := of_decide_eq_true as_
         obtain ⟨ad107, A107_1, c107_1, e107, hx107_0, hx107_1, hx107_2, hx107_3, hx107_4, hl107_1, hi107_1⟩ := at_T64 HR106_1.o a1_1 p107 q107; have hw107_4 := hx107_4; have hw107_3 := hx107_3; have hw107_2 := hx107_2; have hw107_1 := hx107_1; have hw107_0 := hx107_0
         cases e107
         replace hx107_0 := mv_ HB.o hx107_0; replace hx107_1 := mv_ HB.o hx107_1; replace hx107_2 := mv_ HB.o hx107_2; replace hx107_3 := mv_ HB.o hx107_3; replace hx107_4 := mv_ HB.o hx107_4; have HR107_1 := q_ hi107_1; have HC107_1 := q_ hl107_1; clear hi107_1 hl107_1; replace p107 := eq_true p107; replace q107 := eq_true q107
         refine start_ (n := 13) (S := fun w' => w'.cell? ⟨gb101, 0, none⟩ = some (.slice (some ad106) l0_0.length c0_0) ∧ w'.cell? ⟨gb102, 0, none⟩ = some (.int .i64 a1_0) ∧ w'.cell? ⟨gb102, 1, none⟩ = some (.int .i64 a1_1) ∧ w'.cell? ⟨gb102, 2, none⟩ = some (.int .i64 a1_2) ∧ w'.cell? ⟨gb102, 3, none⟩ = some (.int .i64 a1_3) ∧ w'.cell? ⟨gb102, 4, none⟩ = some (.int .i64 a1_4) ∧ w'.cell? ⟨gb102, 5, none⟩ = some (.int .i64 a1_5) ∧ w'.cell? (ad106.add ((a1_0).toNat * 2)) = some (.string ((rd_T62 l0_0 a1_0).f0)) ∧ w'.cell? ⟨(ad106.add ((a1_0).toNat * 2)).block, (ad106.add ((a1_0).toNat * 2)).off + 1, none⟩ = some (.slice (some ad107) ((rd_T62 l0_0 a1_0).f1).length c106_1) ∧ w'.cell? (ad107.add ((a1_1).toNat * 5)) = some (.string ((rd_T64 ((rd_T62 l0_0 a1_0).f1) a1_1).f0)) ∧ w'.cell? ⟨(ad107.add ((a1_1).toNat * 5)).block, (ad107.add ((a1_1).toNat * 5)).off + 1, none⟩ = some (.slice A107_1 ((rd_T64 ((rd_T62 l0_0 a1_0).f1) a1_1).f1.f0).length c107_1) ∧ w'.cell? ⟨(ad107.add ((a1_1).toNat * 5)).block, (ad107.add ((a1_1).toNat * 5)).off + 2, none⟩ = some (.bool ((rd_T64 ((rd_T62 l0_0 a1_0).f1) a1_1).f2)) ∧ w'.cell? ⟨(ad107.add ((a1_1).toNat * 5)).block, (ad107.add ((a1_1).toNat * 5)).off + 3, none⟩ = some (.int .i64 ((rd_T64 ((rd_T62 l0_0 a1_0).f1) a1_1).f3)) ∧ w'.cell? ⟨(ad107.add ((a1_1).toNat * 5)).block, (ad107.add ((a1_1).toNat * 5)).off + 4, none⟩ = some (.string ((rd_T64 ((rd_T62 l0_0 a1_0).f1) a1_1).f4))) (ds := []) (bb 13 0) (by kernel_rfl) rfl rfl ⟨(blk_cell BK101.o 0).trans rfl, (blk_cell BK102.o 0).trans rfl, (blk_cell BK102.o 1).trans rfl, (blk_cell BK102.o 2).trans rfl, (blk_cell BK102.o 3).trans rfl, (blk_cell BK102.o 4).trans rfl, (blk_cell BK102.o 5).trans rfl, (mv_ HB.o hw106_0), (mv_ HB.o hw106_1), (mv_ HB.o hw107_0), (mv_ HB.o hw107_1), (mv_ HB.o hw107_2), (mv_ HB.o hw107_3), (mv_ HB.o hw107_4)⟩ (fun hHeld => ?_); refine with_tabW spec_NameOf.tab5 spec_NameOf.bits5 (fun HT_ HW_ => ?_)
         generalize wc.drew = w25 at BK101 BK102 HB HR106_1 HR107_1 hx106_0 hx106_1 hx107_0 hx107_1 hx107_2 hx107_3 hx107_4 hHeld ⊢
         refine pv_ 0 28 1 HT_.o ?_; refine pv_ 2 30 5 HT_.o ?_; refine pv_ 7 35 133 HT_.o ?_; refine tv_ 1 29 135 HT_.o HW_.o hHeld ?_; refine tv_ 3 31 143 HT_.o HW_.o hHeld ?_; refine pv_ 4 32 159 HT_.o ?_; refine pv_ 5 33 191 HT_.o ?_; refine tv_ 6 34 255 HT_.o HW_.o hHeld ?_; refine tv_ 8 36 511 HT_.o HW_.o hHeld ?_; refine pv_ 9 37 1023 HT_.o ?_; refine pv_ 10 38 2047 HT_.o ?_; refine tv_ 11 39 4095 HT_.o HW_.o hHeld ?_; refine pv_ 12 4 8191 HT_.o ?_
         refine done_ (done_of HT_.o (by kernel_rfl)) ?_
         try go_wp2
         go_ret
         exact ⟨rt_, be2_ HB.o GE101.o GE102.o⟩
        ·rw [if_neg c22] at H
         exact absurd H (by simp)
       ·rw [if_neg c21] at H
        exact absurd H (by simp)
      ·rw [if_neg c20] at H
       exact absurd H (by simp)
     ·rw [if_neg c19] at H
      exact absurd H (by simp)
end Go.Proofs.YtijmhelacmjggaaGreat.P
namespace Go.Proofs.YtijmhelacmjggaaGreat.P
open Go.RowKit Go.Proofs.YtijmhelacmjggaaGreatW.PrintWords Go.Proofs.YtijmhelacmjggaaGreatW.PrintLast Go.Proofs.YtijmhelacmjggaaGreatEv
set_option linter.unusedVariables false
set_option linter.unusedSimpArgs false
def isModeB (g : List S62) (m : Int) : Bool := grammarB g && decide (0 ≤ m ∧ m ≤ (g.length : Int) - 1)
theorem spec_l9Mode_ev (g : List S62) (hg : smallG g) (m : Int) : Ev (fun k => spec_l9Mode.f k g m) (isModeB g m) := by
  have hgl := hg.1
  unfold spec_l9Mode.f isModeB
  rw [ev_bind (spec_GrammarOk_ev g hg)]
  cases grammarB g
  · simp only [Bool.false_eq_true, if_false, Bool.false_and]
    exact ev_some.2 rfl
  · simp only [if_true, spec_l1In_eq, Option.bind_some, Bool.true_and]
    rw [wrap_id (x := (g.length : Int) - 1) (by omega) (by omega)]
    exact ev_some.2 rfl
theorem isMode_in {g : List S62} {m : Int} (h : isModeB g m = true) : 0 ≤ m ∧ m < (g.length : Int) := by
  unfold isModeB at h
  rw [Bool.and_eq_true, decide_eq_true_eq] at h
  omega
theorem rd_mode_mem' (g : List S62) (m : Int) (h0 : 0 ≤ m) (h1 : m < (g.length : Int)) : rd_T62 g m ∈ g := by
  have := rd_mode_mem g m.toNat (by omega)
  rw [Int.toNat_of_nonneg h0] at this
  exact this
end Go.Proofs.YtijmhelacmjggaaGreat.P
namespace Go.Proofs.YtijmhelacmjggaaGreat.P
open Go.RowKit Go.Proofs.YtijmhelacmjggaaGreatW.PrintWords Go.Proofs.YtijmhelacmjggaaGreatW.PrintLast Go.Proofs.YtijmhelacmjggaaGreatW.PrintMore
attribute [local go_sem] max2_int min2_int max_two min_two max_three min_three max_four min_four
set_option linter.unusedVariables false
set_option linter.unusedSimpArgs false
/-! ### impl_isMode: function 29 -/
def impl_isMode.f (l0_0 : List (S62)) (a1 : Int) : Option (Bool) := (impl_Mode_57.f l0_0).bind fun t102 => ((impl_within.f a1 0 (wrap64 (t102 - 1))).bind fun t103 => (if t103 = true then ((impl_GrammarOk.f l0_0).bind fun t104 => (some t104)) else (some false)))
theorem impl_isMode.calls (A0_0 : Option Addr) (c0_0 : Nat) (l0_0 : List (S62)) (a1 : Int) (r : Bool) (w : World) (hr0_0 : Kd.C k62 w A0_0 l0_0.length l0_0) (hc0_0 : l0_0.length ≤ c0_0) (h : impl_isMode.f l0_0 a1 = some r) :
  Calls Tryz.prog 29 #[.agg #[.slice A0_0 l0_0.length c0_0], .int .i64 a1] w fun e w' => e = .returned (.bool r) ∧ Below w.heap.size w w' := by
 have hu31 := Tryz.underlying31; have HR0_0 := q_ hr0_0; have HC0_0 := q_ hc0_0; clear hr0_0 hc0_0; have HB := q_ (Below.refl w.heap.size w)
 have H : ((impl_Mode_57.f l0_0).bind fun t102 => ((impl_within.f a1 0 (wrap64 (t102 - 1))).bind fun t103 => (if t103 = true then ((impl_GrammarOk.f l0_0).bind fun t104 => (some t104)) else (some false)))) = some r := h
 clear h; obtain ⟨t102, A3, H⟩ := ob_ H; obtain ⟨t103, A4, H⟩ := ob_ H
 by_cases c5 : t103 = true
 ·subst c5; rw [if_pos rfl] at H; obtain ⟨t104, A6, H⟩ := ob_ H; obtain rfl := Option.some.inj H
  go_enter Tryz.func29, Tryz.ntmps29
  go_wp2_with (first | ((with_reducible refine gate_dst (N := 2) rfl ?_); refine bx_ 2 #[.slice A0_0 l0_0.length c0_0] 31 ?_; intro gb101 hg w7 hbox hb; have BK101 := q_ (hbox); have GE101 := ge_ hg HB; replace HB := sb_ HB hb; clear hb hbox hg; obtain ⟨hcz8_0, hfz8_0⟩ := d1_ BK101) | ((with_reducible refine gate_callee (f := 57) rfl ?_); refine gl_ (some 8) rfl rfl Tryz.func57 #[.slice A0_0 l0_0.length c0_0] ?_; (with_reducible refine (impl_Mode_57.calls _ _ l0_0 t102 _ ?side1 ?side2 A3.o).mono ?_); (case side1 => exact Kd.C_below HR0_0.o (be_ HB.o)); (case side2 => exact HC0_0.o); rintro e w' ⟨rfl, ⟨nd, rfl⟩⟩; refine ⟨_, rfl, ?_⟩) | ((with_reducible refine gate_callee (f := 56) rfl ?_); refine gl_ (some 10) rfl rfl Tryz.func56 #[.int .i64 a1, .int .i64 0, .int .i64 (wrap64 (t102 - 1))] ?_; (with_reducible refine (impl_within.calls a1 0 (wrap64 (t102 - 1)) true _ A4.o).mono ?_); rintro e w' ⟨rfl, ⟨nd, rfl⟩⟩; refine ⟨_, rfl, ?_⟩) | (go_at_call 42; (with_reducible refine (impl_GrammarOk.calls _ _ l0_0 t104 _ ?side1 ?side2 A6.o).mono ?_); (case side1 => repeat (first | exact (Kd.C_below HR0_0.o (be1_ HB.o GE101.o)) | (with_reducible refine Kd.C_alloc ?_ _) | (with_reducible refine Kd.C_drewN ?_ _) | (with_reducible refine Kd.C_drew ?_))); (case side2 => exact HC0_0.o); rintro e w9 ⟨rfl, hb⟩; replace BK101 := lb_ BK101 hb; replace HB := sb1_ HB GE101 hb; (try clear hb)))
  go_ret
  exact ⟨rt_, be1_ HB.o GE101.o⟩
 ·replace c5 := Bool.eq_false_iff.mpr c5; subst c5; rw [if_neg nft_] at H; obtain rfl := Option.some.inj H
  go_enter Tryz.func29, Tryz.ntmps29
  go_wp2_with (first | ((with_reducible refine gate_dst (N := 2) rfl ?_); refine bx_ 2 #[.slice A0_0 l0_0.length c0_0] 31 ?_; intro gb101 hg w10 hbox hb; have BK101 := q_ (hbox); have GE101 := ge_ hg HB; replace HB := sb_ HB hb; clear hb hbox hg; obtain ⟨hcz11_0, hfz11_0⟩ := d1_ BK101) | ((with_reducible refine gate_callee (f := 57) rfl ?_); refine gl_ (some 8) rfl rfl Tryz.func57 #[.slice A0_0 l0_0.length c0_0] ?_; (with_reducible refine (impl_Mode_57.calls _ _ l0_0 t102 _ ?side1 ?side2 A3.o).mono ?_); (case side1 => exact Kd.C_below HR0_0.o (be_ HB.o)); (case side2 => exact HC0_0.o); rintro e w' ⟨rfl, ⟨nd, rfl⟩⟩; refine ⟨_, rfl, ?_⟩) | ((with_reducible refine gate_callee (f := 56) rfl ?_); refine gl_ (some 10) rfl rfl Tryz.func56 #[.int .i64 a1, .int .i64 0, .int .i64 (wrap64 (t102 - 1))] ?_; (with_reducible refine (impl_within.calls a1 0 (wrap64 (t102 - 1)) false _ A4.o).mono ?_); rintro e w' ⟨rfl, ⟨nd, rfl⟩⟩; refine ⟨_, rfl, ?_⟩))
  go_ret
  exact ⟨rt_, be1_ HB.o GE101.o⟩
end Go.Proofs.YtijmhelacmjggaaGreat.P
namespace Go.Proofs.YtijmhelacmjggaaGreat.P
open Go.RowKit Go.Proofs.YtijmhelacmjggaaGreatW.PrintWords Go.Proofs.YtijmhelacmjggaaGreatW.PrintLast Go.Proofs.YtijmhelacmjggaaGreatEv
set_option linter.unusedVariables false
set_option linter.unusedSimpArgs false
theorem impl_isMode_eq (g : List S62) (hg : smallG g) (m : Int) : impl_isMode.f g m = some (isModeB g m) := by
  have hgl := hg.1
  unfold impl_isMode.f isModeB
  simp only [impl_Mode_57.f, Option.bind_some, impl_within_eq, impl_GrammarOk_eq g hg]
  rw [wrap_id (x := (g.length : Int) - 1) (by omega) (by omega)]
  by_cases h : 0 ≤ m ∧ m ≤ (g.length : Int) - 1
  · rw [decide_eq_true h, if_pos rfl, Bool.and_true]
  · rw [decide_eq_false h, if_neg (by decide), Bool.and_false]
end Go.Proofs.YtijmhelacmjggaaGreat.P
namespace Go.Proofs.YtijmhelacmjggaaGreat.P
open Go.RowKit Go.Shelf Go.Proofs.YtijmhelacmjggaaGreatW.PrintWords Go.Proofs.YtijmhelacmjggaaGreatW.PrintLast Go.Proofs.YtijmhelacmjggaaGreatW.PrintMore Go.Proofs.YtijmhelacmjggaaGreatEv
set_option linter.unusedVariables false
set_option linter.unusedSimpArgs false
def arrF (p : Nat → Bool) : Array Value := ((List.range 256).map fun i => Value.bool (p i)).toArray
theorem arrF_size (p : Nat → Bool) : (arrF p).size = 256 := by simp [arrF]
theorem arrF_get (p : Nat → Bool) (i : Nat) (h : i < 256) : (arrF p)[i]? = some (.bool (p i)) := by
  simp [arrF, h]
theorem arrF_congr (p q : Nat → Bool) (h : ∀ i, i < 256 → p i = q i) : arrF p = arrF q := by
  unfold arrF
  congr 1
  apply List.map_congr_left
  intro i hi
  rw [h i (List.mem_range.1 hi)]
theorem arrF_set (p : Nat → Bool) (j : Nat) (b : Bool) : (arrF p).setIfInBounds j (.bool b) = arrF (fun i => if i = j then b else p i) := by
  apply Array.ext_getElem?
  intro i
  by_cases hi : i < 256
  · rw [arrF_get _ i hi, Array.getElem?_setIfInBounds]
    by_cases e : j = i
    · subst e
      rw [if_pos rfl, if_pos (by rw [arrF_size]; exact hi), if_pos rfl]
    · rw [if_neg e, arrF_get _ i hi, if_neg (fun h => e h.symm)]
  · rw [Array.getElem?_eq_none (by rw [Array.size_setIfInBounds, arrF_size]; omega), Array.getElem?_eq_none (by rw [arrF_size]; omega)]
theorem arrF_one (p : Nat → Bool) : (arrF p).all (·.oneCell') = true := by
  rw [Array.all_eq_true_iff_forall_mem]
  intro v hv
  unfold arrF at hv
  simp only [List.mem_toArray, List.mem_map] at hv
  obtain ⟨i, _, rfl⟩ := hv
  rfl
theorem arr_zero : Tryz.zeroCells124 = arrF fun _ => false := by kernel_rfl
theorem arr_info : (Tryz.prog.info? 124).map (·.size) = some 256 := by kernel_rfl
theorem arr_built : (Tryz.prog.built 124 []) = some (arrF fun _ => false) := by kernel_rfl
theorem arr_infoZ : (Tryz.prog.info? 124).map (·.size) = some (Tryz.zeroCells124).size := by rw [arr_zero, arrF_size]; exact arr_info
theorem arr_oneZ : (Tryz.zeroCells124).all (·.oneCell') = true := by rw [arr_zero]; exact arrF_one _
theorem arr_infoF (p : Nat → Bool) : (Tryz.prog.info? 124).map (·.size) = some (arrF p).size := by rw [arrF_size]; exact arr_info
theorem arr_cell {w : World} {g : Nat} {p : Nat → Bool} (h : w.heap[g]? = some (.cells (arrF p) 124 (0, 0))) (i : Nat) (hi : i < 256) : w.cell? ⟨g, i, none⟩ = some (.bool (p i)) := (blk_cell h i).trans (arrF_get p i hi)
theorem arr_put {w : World} {g : Nat} {p : Nat → Bool} (h : w.heap[g]? = some (.cells (arrF p) 124 (0, 0))) (i : Nat) (b : Bool) : (w.setCell ⟨g, i, none⟩ (.bool b)).heap[g]? = some (.cells (arrF fun j => if j = i then b else p j) 124 (0, 0)) := by
  rw [← arrF_set]
  exact blk_set h i _
def inAny (l : List S67) (b : Nat) : Bool := l.any fun x => decide (x.f0 ≤ (b : Int) ∧ (b : Int) ≤ x.f1)
theorem inAny_take (l : List S67) (k : Nat) (h : k < l.length) (b : Nat) : inAny (l.take (k + 1)) b = (inAny (l.take k) b || decide ((rd_T67 l (k : Int)).f0 ≤ (b : Int) ∧ (b : Int) ≤ (rd_T67 l (k : Int)).f1)) := by
  have e : rd_T67 l (k : Int) = l[k] := by simp [rd_T67, h]
  unfold inAny
  rw [List.take_succ_eq_append_getElem h, List.any_append, e]
  simp
theorem flag_step (p : Bool) (lo : Int) (i b : Nat) (hlo : lo ≤ (i : Int)) : (if b = i then true else (p || decide (lo ≤ (b : Int) ∧ (b : Int) < (i : Int)))) = (p || decide (lo ≤ (b : Int) ∧ (b : Int) < (i : Int) + 1)) := by
  by_cases e : b = i
  · subst e
    rw [if_pos rfl, decide_eq_true (⟨hlo, by omega⟩ : lo ≤ (b : Int) ∧ (b : Int) < (b : Int) + 1), Bool.or_true]
  · rw [if_neg e]
    congr 1
    exact decide_eq_decide.2 (by omega)
theorem bytesOf_hand (A : Option Addr) (c : Nat) (l : List S67) (w : World) (hr : Kd.C k67 w A l.length l) (hok : ∀ x ∈ l, 0 ≤ x.f0 ∧ x.f1 ≤ 255) :
    Calls Tryz.prog 83 #[.slice A l.length c] w fun e w' => e = .returned (.agg (arrF (inAny l))) ∧ Below w.heap.size w w' := by
  have HR := q_ hr
  have HOK := q_ hok
  have hn := hr.2.1
  clear hr hok
  have HB := q_ (Below.refl w.heap.size w)
  have T1 : J0 True := ⟨trivial⟩
  go_enter Tryz.func83, Tryz.ntmps83
  go_wp2_with (first | ((with_reducible refine gate_dst (N := 2) rfl ?_); refine bx_ 2 Tryz.zeroCells124 124 ?_; intro g2 hg w2 hbox hb; have BK2 := q_ hbox; have GE2 := ge_ hg HB; replace HB := sb_ HB hb; clear hbox hb hg) | ((with_reducible refine gate_dst (N := 3) rfl ?_); refine bx_ 3 Tryz.zeroCells124 124 ?_; intro g3 hg w3 hbox hb; have BK3 := q_ hbox; have GE3 := ge1_ hg HB GE2; have NE23 := nl_ hg BK2; replace BK2 := lb_ BK2 hb; replace HB := sb1_ HB GE2 hb; clear hbox hb hg) | ((with_reducible refine gate_store (t := 124) (p := 3) rfl ?_); clear T1; refine wpList_store_row rfl 124 _ _ rfl g3 Tryz.zeroCells124 rfl rfl 124 Tryz.zeroCells124 BK3.o arr_infoZ rfl arr_oneZ ?_; rw [setRow_self _ _ _ _ _ BK3.o]))
  go_loopg [10] l.length (fun gg s10 wr => ∃ kk : Nat, kk ≤ l.length ∧ l.length - kk ≤ gg ∧ s10 = .int .i64 kk ∧ J0 (wr.heap[g2]? = some (.cells Tryz.zeroCells124 124 (0, 0))) ∧ J0 (wr.heap[g3]? = some (.cells (arrF (inAny (l.take kk))) 124 (0, 0))) ∧ J0 (Below w.heap.size w wr))
  case atStart => exact ⟨0, Nat.zero_le _, by omega, rfl, BK2, ⟨by have h_ := BK3.o; rw [arr_zero] at h_; exact h_⟩, HB⟩
  case round =>
    clear BK2 BK3 HB
    obtain ⟨kk, hkk, hgg, rfl, BK2, BK3, HB⟩ := hrel
    by_cases hlt : kk < l.length
    · have hltz : (kk : Int) < (l.length : Int) := by omega
      obtain ⟨ad, e1, hx0, hx1⟩ := at_T67 HR.o (kk : Int) (by omega) hltz
      cases e1
      rw [Int.toNat_natCast] at hx0 hx1
      replace hx0 := mv_ HB.o hx0
      replace hx1 := mv_ HB.o hx1
      have hmem : rd_T67 l (kk : Int) ∈ l := by
        unfold rd_T67
        rw [List.getD_eq_getElem?_getD, List.getElem?_eq_getElem (by simpa using hlt)]
        exact List.getElem_mem _
      have hy := HOK.o _ hmem
      have hst := q_ (inAny_take l kk hlt)
      generalize rd_T67 l (kk : Int) = y at *
      clear hmem
      have hy0 := hy.1
      have hy1 := hy.2
      have T2 : J0 True := ⟨trivial⟩
      go_wp2_with ((with_reducible refine gate_dst (N := 5) rfl ?_); clear T2; refine bx_ 5 #[.int .i64 0, .int .i64 0] 67 ?_; intro g5 hg w20 hbox hb; have NE25 := nl_ hg BK2; have NE35 := nl_ hg BK3; have GE5 := ge_ hg HB; have BK5 := q_ hbox; replace BK2 := lb_ BK2 hb; replace BK3 := lb_ BK3 hb; replace HB := sb_ HB hb; obtain ⟨hz0, hz1, hf0, hf1⟩ := d2_ BK5; clear hb hbox hg)
      have BS : J0 (((w20.setCell ⟨g5, 0, none⟩ (.int .i64 y.f0)).setCell ⟨g5, 1, none⟩ (.int .i64 y.f1)).heap[g5]? = some (.cells #[.int .i64 y.f0, .int .i64 y.f1] 67 (0, 0))) := ⟨blk_put (blk_put BK5.o 0 _ rfl) 1 _ rfl⟩
      have B22 : J0 (((w20.setCell ⟨g5, 0, none⟩ (.int .i64 y.f0)).setCell ⟨g5, 1, none⟩ (.int .i64 y.f1)).heap[g2]? = some (.cells Tryz.zeroCells124 124 (0, 0))) := ⟨blk_far (blk_far BK2.o NE25.o _) NE25.o _⟩
      have B32 : J0 (((w20.setCell ⟨g5, 0, none⟩ (.int .i64 y.f0)).setCell ⟨g5, 1, none⟩ (.int .i64 y.f1)).heap[g3]? = some (.cells (arrF (inAny (l.take kk))) 124 (0, 0))) := ⟨blk_far (blk_far BK3.o NE35.o _) NE35.o _⟩
      have HB2 : J0 (Below w.heap.size w ((w20.setCell ⟨g5, 0, none⟩ (.int .i64 y.f0)).setCell ⟨g5, 1, none⟩ (.int .i64 y.f1))) := ⟨below_set (below_set HB.o GE5.o) GE5.o⟩
      clear BK2 BK3 BK5 HB hz0 hz1 hf0 hf1 hx0 hx1
      generalize (w20.setCell ⟨g5, 0, none⟩ (.int .i64 y.f0)).setCell ⟨g5, 1, none⟩ (.int .i64 y.f1) = w21 at *
      go_loopg [6] (y.f1 + 1 - y.f0).toNat (fun gg s6 wr => ∃ t : Int, y.f0 ≤ t ∧ (t ≤ y.f1 + 1 ∨ t = y.f0) ∧ (y.f1 + 1 - t).toNat ≤ gg ∧ s6 = .int .i64 t ∧ J0 (wr.heap[g5]? = some (.cells #[.int .i64 y.f0, .int .i64 y.f1] 67 (0, 0))) ∧ J0 (wr.heap[g2]? = some (.cells Tryz.zeroCells124 124 (0, 0))) ∧ J0 (wr.heap[g3]? = some (.cells (arrF fun b => inAny (l.take kk) b || decide (y.f0 ≤ (b : Int) ∧ (b : Int) < t)) 124 (0, 0))) ∧ J0 (Below w.heap.size w wr))
      case atStart => exact ⟨y.f0, Int.le_refl _, .inr rfl, Nat.le_refl _, rfl, BS, B22, ⟨by rw [B32.o]; congr 2; exact arrF_congr _ _ fun b _ => by rw [decide_eq_false (by omega), Bool.or_false]⟩, HB2⟩
      case round =>
        clear BS B22 B32 HB2
        obtain ⟨t, ht0, ht1, htg, rfl, BS, B22, B32, HB2⟩ := hrel
        have hc1 : wr.cell? ⟨g5, 1, none⟩ = some (.int .i64 y.f1) := (blk_cell BS.o 1).trans rfl
        by_cases hle : t ≤ y.f1
        · have hleb : decide (t ≤ y.f1) = true := decide_eq_true hle
          have t0 : 0 ≤ t := by omega
          have t1 : t < 256 := by omega
          obtain ⟨i, rfl⟩ : ∃ i : Nat, t = (i : Int) := ⟨t.toNat, by omega⟩
          have hi : i < 256 := by omega
          have hc3 := arr_cell B32.o i hi
          have hf3 := blk_frozen B32.o i
          have hz : ((i : Int) < 256) = True := eq_true (by omega)
          have T3 : J0 True := ⟨trivial⟩
          go_wp2_with ((with_reducible refine gate_store (t := 4) (p := 23) rfl ?_); clear T3; refine store_event (t := 4) (p := 23) (v := ?vo) (w1 := (wr.setCell ⟨g3, i, none⟩ (.bool true))) ?hg ?ho ?hn ?hr ?_; (case ho => rfl); (case hg => rfl); (case hn => rfl); (case hr => first | (go_simp; done) | (go_simp; rfl)); intro w30 hw; have n1_ := q_ (show w30.heap[g5]? = some (.cells #[.int .i64 y.f0, .int .i64 y.f1] 67 (0, 0)) by rw [hw]; exact blk_far BS.o NE35.o.symm _); have n2_ := q_ (show w30.heap[g2]? = some (.cells Tryz.zeroCells124 124 (0, 0)) by rw [hw]; exact blk_far B22.o NE23.o _); have n3_ := q_ (show w30.heap[g3]? = some (.cells (arrF fun b => inAny (l.take kk) b || decide (y.f0 ≤ (b : Int) ∧ (b : Int) < (i : Int) + 1)) 124 (0, 0)) by rw [hw, arr_put B32.o i true]; congr 2; exact arrF_congr _ _ fun b _ => flag_step _ _ i b ht0); have n4_ := q_ (show Below w.heap.size w w30 by rw [hw]; exact below_set HB2.o GE3.o); clear BS B22 B32 HB2 hw hc3 hf3 hc1; have BS := n1_; have B22 := n2_; have B32 := n3_; have HB2 := n4_; clear n1_ n2_ n3_ n4_)
          go_roundg (y.f1 + 1 - ((i : Int) + 1)).toNat
          case measure => omega
          case rel => exact ⟨(i : Int) + 1, by omega, .inl (by omega), Nat.le_refl _, by go_num, BS, B22, B32, HB2⟩
        · have hleb : decide (t ≤ y.f1) = false := decide_eq_false hle
          go_wp2
          go_roundg (l.length - (kk + 1))
          case measure => omega
          case rel => exact ⟨kk + 1, by omega, Nat.le_refl _, by go_num, B22, ⟨by rw [B32.o]; congr 2; exact arrF_congr _ _ fun b _ => by rw [hst.o b]; congr 1; exact decide_eq_decide.2 (by omega)⟩, HB2⟩
    · have hltz : ¬ (kk : Int) < (l.length : Int) := by omega
      have hk : kk = l.length := by omega
      subst hk
      rw [List.take_length] at BK3
      have T4 : J0 True := ⟨trivial⟩
      have T5 : J0 True := ⟨trivial⟩
      go_wp2_with (first | ((with_reducible refine gate_dst (N := 25) rfl ?_); clear T4; refine wpList_load_row rfl 124 _ rfl g3 rfl 124 (arrF (inAny l)) (0, 0) _ BK3.o Tryz.underlying124 rfl (arr_infoF _) ?_) | ((with_reducible refine gate_store (t := 124) (p := 2) rfl ?_); clear T5; refine wpList_store_row rfl 124 _ _ rfl g2 (arrF (inAny l)) rfl rfl 124 Tryz.zeroCells124 BK2.o (arr_infoF _) (by rw [arr_zero, arrF_size, arrF_size]) (arrF_one _) ?_))
      refine bodyPost_ret (results_cell_row rfl _ _ g2 124 (arrF (inAny l)) (0, 0) _ rfl (setRow_heap _ _ _ _ _ _ BK2.o) Tryz.underlying124 rfl (arr_infoF _)) rfl ?_
      exact ⟨rfl, below_setRow HB.o GE2.o _⟩
def addRun (xs : List S67) (b : Int) : List S67 := if 0 < xs.length then (if (rd_T67 xs ((xs.length : Int) - 1)).f1 = b - 1 then xs.set ((xs.length : Int) - 1).toNat ⟨(rd_T67 xs ((xs.length : Int) - 1)).f0, b⟩ else xs ++ [⟨b, b⟩]) else xs ++ [⟨b, b⟩]
def classTo (p : Nat → Bool) : Nat → List S67
  | 0 => []
  | n + 1 => if p n = true then addRun (classTo p n) (n : Int) else classTo p n
theorem addRun_length (xs : List S67) (b : Int) : (addRun xs b).length ≤ xs.length + 1 := by
  unfold addRun
  split
  · split <;> simp
  · simp
theorem classTo_length (p : Nat → Bool) : ∀ n, (classTo p n).length ≤ n
  | 0 => Nat.le_refl _
  | n + 1 => by
    have := classTo_length p n
    unfold classTo
    split
    · have := addRun_length (classTo p n) (n : Int); omega
    · omega
theorem classTo_congr (p q : Nat → Bool) (h : ∀ i, i < 256 → p i = q i) : ∀ n, n ≤ 256 → classTo p n = classTo q n
  | 0, _ => rfl
  | n + 1, hn => by
    unfold classTo
    rw [classTo_congr p q h n (by omega), h n (by omega)]
theorem class_hand (p : Nat → Bool) (w : World) (res : List S67) (hres : classTo p 256 = res) :
    Calls Tryz.prog 84 #[.agg (arrF p)] w fun e w' => ∃ v : Value, e = .returned v ∧ Kd.R k67 67 w' w.heap.size (fun _ => True) v res ∧ Below w.heap.size w w' := by
  have HRS := q_ hres
  clear hres
  have HB := q_ (Below.refl w.heap.size w)
  go_enter Tryz.func84, Tryz.ntmps84
  go_wp2_with (first | ((with_reducible refine gate_dst (N := 1) rfl ?_); refine bx_ 1 (arrF p) 124 ?_; intro g1 hg w2 hbox hb; have BK := q_ hbox; have GE := ge_ hg HB; replace HB := sb_ HB hb; clear hbox hb hg) | ((with_reducible refine gate_dst (N := 6) rfl ?_); refine Kd.R_lit k67 _ 67 ?hg (N := 6) ?hd (xs := ([] : List S67)) (inner := []) (ok := fun _ => True) (okp := fun _ => True) ?hr ?hp (fun _ hk => hk) trivial (Below.refl _ _) (Nat.le_refl _) (by simp) ?_; (case hd => rfl); (case hg => rfl); (case hr => first | (go_simp; done) | (go_simp; rfl)); (case hp => exact (Reps.none _ _)); intro v0 w3 ho hb hg_ hnew_; clear hg_ hnew_; have HO := q_ (Kd.R_lower ho (below_size (be_ HB.o))); replace BK := lb_ BK hb; replace HB := sb_ HB hb; clear hb ho))
  go_loopg [3, 7] 256 (fun gg v3 v7 wr => ∃ kk : Nat, kk ≤ 256 ∧ 256 - kk ≤ gg ∧ v7 = .int .i64 kk ∧ J0 (Kd.R k67 67 wr w.heap.size (fun _ => True) v3 (classTo p kk)) ∧ J0 (wr.heap[g1]? = some (.cells (arrF p) 124 (0, 0))) ∧ J0 (Below w.heap.size w wr))
  case atStart => exact ⟨0, by omega, by omega, rfl, HO, BK, HB⟩
  case round =>
    clear HO BK HB
    obtain ⟨kk, hkk, hgg, rfl, HO, BK, HB⟩ := hrel
    by_cases hlt : kk < 256
    · have hz : ((kk : Int) < 256) = True := eq_true (by omega)
      have hzb : decide ((kk : Int) < 256) = true := decide_eq_true (by omega)
      have hc := arr_cell BK.o kk hlt
      have hlen := classTo_length p kk
      have hst : classTo p (kk + 1) = if p kk = true then addRun (classTo p kk) (kk : Int) else classTo p kk := rfl
      obtain ⟨xs, hxs⟩ : ∃ xs : List S67, xs = classTo p kk := ⟨_, rfl⟩
      rw [← hxs] at hst HO hlen
      obtain ⟨nxt, hnx⟩ : ∃ q : List S67, q = classTo p (kk + 1) := ⟨_, rfl⟩
      rw [← hnx] at hst
      have HNX := q_ hnx
      obtain ⟨pb, hpk⟩ : ∃ b : Bool, b = p kk := ⟨_, rfl⟩
      rw [← hpk] at hst hc
      clear hnx
      obtain ⟨Ao, co, eo⟩ := Kd.R_slice HO.o
      subst eo
      obtain ⟨J, hJ⟩ : ∃ J : Int, (xs.length : Int) - 1 = J := ⟨_, rfl⟩
      have hJw : IntKind.i64.wrap ((xs.length : Int) - 1) = J := by rw [i64_w, wrap_id (by omega) (by omega)]; exact hJ
      have hbw : IntKind.i64.wrap ((kk : Int) - 1) = (kk : Int) - 1 := by rw [i64_w]; exact wrap_id (by omega) (by omega)
      cases pb with
      | false =>
        have hs2 : J0 (nxt = xs) := ⟨by rw [hst]; rfl⟩
        clear hst hxs hpk
        go_wp2
        go_roundg (256 - (kk + 1))
        case measure => omega
        case rel => exact ⟨kk + 1, by omega, Nat.le_refl _, by go_num, ⟨by rw [← HNX.o, hs2.o]; exact HO.o⟩, BK, HB⟩
      | true =>
        have hs1 : J0 (nxt = addRun xs (kk : Int)) := ⟨by rw [hst]; rfl⟩
        clear hst hxs hpk
        by_cases h0 : 0 < xs.length
        · have hJb : decide (0 ≤ J) = true := decide_eq_true (by omega)
          have p5 : 0 ≤ J := by omega
          have q5 : J < (xs.length : Int) := by omega
          obtain ⟨ad5, e5, hx0, hx1⟩ := at_T67 (Kd.R_reads' HO.o).2.2 J p5 q5
          cases e5
          obtain ⟨go, co2, eo2, gb, gl, cl, HGo⟩ := Kd.R_form HO.o h0
          (first | cases eo2 | (injection eo2 with ea_ en_ ec_; (first | subst ea_ | (injection ea_ with ea_; subst ea_)); subst ec_; clear en_))
          have GB := q_ gb
          (first | simp only [add_plain] at hx0 | skip)
          (first | simp only [add_plain] at hx1 | skip)
          have p5b := eq_true p5
          have q5b := eq_true q5
          by_cases h1 : (rd_T67 xs J).f1 = (kk : Int) - 1
          · have c1 : ((rd_T67 xs J).f1 == (kk : Int) - 1) = true := beq_iff_eq.mpr h1
            obtain ⟨ys, hys⟩ : ∃ ys : List S67, ys = xs.set J.toNat ⟨(rd_T67 xs J).f0, (kk : Int)⟩ := ⟨_, rfl⟩
            have hs2 : J0 (nxt = ys) := ⟨by rw [hs1.o, hys]; unfold addRun; rw [hJ, if_pos h0, if_pos h1]⟩
            obtain ⟨ce, hcl, hM, hcc, hfr⟩ := Kd.R_elem HO.o z67 J p5 q5
            obtain rfl := k67_openM hM
            have hx10 : wr.cell? ⟨go, J.toNat * 2, none⟩ = some (.int .i64 (rd_T67 xs J).f0) := hcc 0 _ rfl
            have hx11 : wr.cell? ⟨go, J.toNat * 2 + 1, none⟩ = some (.int .i64 (rd_T67 xs J).f1) := hcc 1 _ rfl
            have hf10 : wr.frozen? ⟨go, J.toNat * 2, none⟩ = false := hfr 0
            have hf11 : wr.frozen? ⟨go, J.toNat * 2 + 1, none⟩ = false := hfr 1
            have HP := q_ (Kd.R_seg HO.o J p5 q5 (seg := [.int .i64 (kk : Int)]) (j := 1) hcl hcc (show 2 ≤ 2 from by decide) (x' := (⟨(rd_T67 xs J).f0, (kk : Int)⟩ : S67)) (k67_mkM _ _ _ (⟨(rd_T67 xs J).f0, (kk : Int)⟩ : S67)) (fun _ hk => hk))
            have HNE : J0 (g1 ≠ go) := ⟨fun e_ => Kd.R_ne HO.o BK.o (by decide) (by rw [e_]; rfl)⟩
            have T1 : J0 True := ⟨trivial⟩
            clear hcl hcc hfr hM gb gl cl HGo hs1
            go_wp2_with ((with_reducible refine gate_store (t := 2) (p := 41) rfl ?_); clear T1; refine store_event (t := 2) (p := 41) (v := ?vo) (w1 := (wr.setCell ⟨go, J.toNat * 2 + 1, none⟩ (.int .i64 (kk : Int)))) ?hg ?ho ?hn ?hr ?_; (case ho => rfl); (case hg => rfl); (case hn => rfl); (case hr => first | (go_simp; done) | (go_simp; rfl)); intro w17 hw; have n1_ := q_ (show Kd.R k67 67 w17 w.heap.size (fun _ => True) (.slice (some ⟨go, 0, none⟩) xs.length co) ys by rw [hw, hys]; exact HP.out.1); have n2_ := q_ (show w17.heap[g1]? = some (.cells (arrF p) 124 (0, 0)) by rw [hw]; exact blk_far BK.o HNE.o _); have n3_ := q_ (show Below w.heap.size w w17 by rw [hw]; exact below_set HB.o GB.o); clear HO BK HB HP hw hx0 hx1 hx10 hx11 hf10 hf11 hc; have HO := n1_; have BK := n2_; have HB := n3_; clear n1_ n2_ n3_)
            go_roundg (256 - (kk + 1))
            case measure => omega
            case rel => exact ⟨kk + 1, by omega, Nat.le_refl _, by go_num, ⟨by rw [← HNX.o, hs2.o]; exact HO.o⟩, BK, HB⟩
          · have c1 : ((rd_T67 xs J).f1 == (kk : Int) - 1) = false := beq_eq_false_iff_ne.mpr h1
            obtain ⟨ys, hys⟩ : ∃ ys : List S67, ys = xs ++ [⟨(kk : Int), (kk : Int)⟩] := ⟨_, rfl⟩
            have hs2 : J0 (nxt = ys) := ⟨by rw [hs1.o, hys]; unfold addRun; rw [hJ, if_pos h0, if_neg h1]⟩
            have HY := q_ hys
            clear hys gb gl cl HGo hs1
            go_wp2_with ((with_reducible refine gate_builtin (b := .append) (xs := #[.tmp 13, .tmp 17]) rfl ?_); at_builtin; refine Kd.R_append k67 (w0 := w) w.heap.size rfl (.tmp 13) (.tmp 17) 26 67 (.agg #[(.int .i64 0), (.int .i64 0)]) 16 rfl Tryz.underlying26 info67 rfl (by decide) (by omega) (.slice (some ⟨go, 0, none⟩) xs.length co) xs (⟨(kk : Int), (kk : Int)⟩ : S67) [.int .i64 (kk : Int), .int .i64 (kk : Int)] (fun _ => True) (fun _ => False) rfl rfl ?aP (fun _ hk => hk.elim) ?aF ?aO ?aB ?aS ?aL ?_; (case aP => exact k67_mkM _ _ _ (⟨(kk : Int), (kk : Int)⟩ : S67)); (case aB => exact (be_ HB.o)); (case aF => exact (fun _ _ => trivial)); (case aO => exact (ra_ HO.o)); (case aS => exact (below_size (be_ HB.o))); (case aL => omega); intro v20 w20 ho hb hgr hat; rw [← HY.o] at ho; have BK2 := q_ (show w20.heap[g1]? = some (.cells (arrF p) 124 (0, 0)) by (refine blk_grown ?_ hgr ?_; (exact bk_ BK.o); (exact Kd.R_ne HO.o BK.o (by decide)))); have HO2 := q_ ho; replace HB := q_ hb; clear HO BK hc; clear ho hb hgr hat)
            go_roundg (256 - (kk + 1))
            case measure => omega
            case rel => exact ⟨kk + 1, by omega, Nat.le_refl _, by go_num, ⟨by rw [← HNX.o, hs2.o]; exact HO2.o⟩, BK2, HB⟩
        · have hJb : decide (0 ≤ J) = false := decide_eq_false (by omega)
          obtain ⟨ys, hys⟩ : ∃ ys : List S67, ys = xs ++ [⟨(kk : Int), (kk : Int)⟩] := ⟨_, rfl⟩
          have hs2 : J0 (nxt = ys) := ⟨by rw [hs1.o, hys]; unfold addRun; rw [if_neg h0]⟩
          have HY := q_ hys
          clear hys hs1
          go_wp2_with ((with_reducible refine gate_builtin (b := .append) (xs := #[.tmp 13, .tmp 17]) rfl ?_); at_builtin; refine Kd.R_append k67 (w0 := w) w.heap.size rfl (.tmp 13) (.tmp 17) 26 67 (.agg #[(.int .i64 0), (.int .i64 0)]) 16 rfl Tryz.underlying26 info67 rfl (by decide) (by omega) (.slice Ao xs.length co) xs (⟨(kk : Int), (kk : Int)⟩ : S67) [.int .i64 (kk : Int), .int .i64 (kk : Int)] (fun _ => True) (fun _ => False) rfl rfl ?aP (fun _ hk => hk.elim) ?aF ?aO ?aB ?aS ?aL ?_; (case aP => exact k67_mkM _ _ _ (⟨(kk : Int), (kk : Int)⟩ : S67)); (case aB => exact (be_ HB.o)); (case aF => exact (fun _ _ => trivial)); (case aO => exact (ra_ HO.o)); (case aS => exact (below_size (be_ HB.o))); (case aL => omega); intro v20 w20 ho hb hgr hat; rw [← HY.o] at ho; have BK2 := q_ (show w20.heap[g1]? = some (.cells (arrF p) 124 (0, 0)) by (refine blk_grown ?_ hgr ?_; (exact bk_ BK.o); (exact Kd.R_ne HO.o BK.o (by decide)))); have HO2 := q_ ho; replace HB := q_ hb; clear HO BK hc; clear ho hb hgr hat)
          go_roundg (256 - (kk + 1))
          case measure => omega
          case rel => exact ⟨kk + 1, by omega, Nat.le_refl _, by go_num, ⟨by rw [← HNX.o, hs2.o]; exact HO2.o⟩, BK2, HB⟩
    · have hzb : decide ((kk : Int) < 256) = false := decide_eq_false (by omega)
      have hk : kk = 256 := by omega
      subst hk
      go_wp2
      go_ret
      exact ⟨_, rfl, by rw [← HRS.o]; exact HO.o, HB.o⟩
theorem goesT_ {P : Program} {ops : Array Oper} {Q : Exit → Act → World → Prop} {oi : Oper} {N : Option Tmp} {a : Act} {w : World} {K : Act → World → Prop} {f : FuncId} {fn : Func} {x : Operand} {as_ : Array Operand} {ts : Array TypeId} (hf : P.funcs[f]? = some fn) (hname : (fn.name == "runtime.NumGoroutine") = false) (hb : fn.body.isSome = true) (args : Array Value)
    (hw : Region.wanted oi (yielded ops a.tmps) = true) (hN : oi.dst = N) (hop : oi.op = .call { callee := .value x, args := as_, argTypes := ts }) (hx : a.eval x = .func (.func f) #[] #[]) (hargs : as_.map a.eval = args)
    (h : Calls P f args w fun e w' => ∃ v, e = .returned v ∧ K (a.put N v) w') : if Region.wanted oi (yielded ops a.tmps) = true then Oper.wp P oi a w K Q else K (a.put N undef) w := by
  refine call_ f args hw hN ?_ h
  have he := enters_ hf hname hb args w
  unfold execOp
  simp [hop, resolve, Deferred.ofValue, invoke, hx, hargs, he]
theorem spansR_bounds : ∀ (l : List S67) (last : Int), spansR last l = true → ∀ x ∈ l, 0 ≤ x.f0 ∧ x.f1 ≤ 255
  | [], _, _ => fun x hx => by simp at hx
  | s :: rest, last, h => fun x hx => by
    simp only [spansR, Bool.and_eq_true, decide_eq_true_eq] at h
    rcases List.mem_cons.1 hx with rfl | hx
    · exact ⟨h.1.1.1.1, h.1.1.2⟩
    · exact spansR_bounds rest s.f1 h.2 x hx
theorem class_bounds (l : List S67) (h : classB l = true) : ∀ x ∈ l, 0 ≤ x.f0 ∧ x.f1 ≤ 255 := spansR_bounds l (-2) h
theorem both_step (q : Nat → Bool) (i k : Nat) (h : i = k → q k = q i) : (if i = k then q k else (decide (i < k) && q i)) = (decide (i < k + 1) && q i) := by
  by_cases e : i = k
  · rw [if_pos e, h e, decide_eq_true (by omega), Bool.true_and]
  · rw [if_neg e]
    congr 1
    exact decide_eq_decide.2 (by omega)
def bothB (op : Bool → Bool → Bool) (a b : List S67) : List S67 := if (classB a && classB b) = true then classTo (fun i => op (inAny a i) (inAny b i)) 256 else []
theorem Joined_1_calls (W : World) (x y : Bool) : Calls Tryz.prog 59 #[.bool x, .bool y] W fun e w' => e = .returned (.bool (x || y)) ∧ Drawn0 W w' := by
  cases x
  · go_enter Tryz.func59, Tryz.ntmps59
    go_wp2
    go_ret
    exact ⟨by simp, by repeat (first | exact Drawn0.refl _ | apply Drawn0.step)⟩
  · go_enter Tryz.func59, Tryz.ntmps59
    go_wp2
    go_ret
    exact ⟨by simp, by repeat (first | exact Drawn0.refl _ | apply Drawn0.step)⟩
theorem combined_hand (op : Bool → Bool → Bool) (g : Nat) (fn : Func) (hgf : Tryz.prog.funcs[g]? = some fn) (hgn : (fn.name == "runtime.NumGoroutine") = false) (hgb : fn.body.isSome = true) (hq : ∀ (W : World) (x y : Bool), Calls Tryz.prog g #[.bool x, .bool y] W fun e w' => e = .returned (.bool (op x y)) ∧ Drawn0 W w')
    (A1 A2 : Option Addr) (c1 c2 : Nat) (a b : List S67) (w : World) (hr1 : Kd.C k67 w A1 a.length a) (hc1 : a.length ≤ c1) (hr2 : Kd.C k67 w A2 b.length b) (hc2 : b.length ≤ c2) (res : List S67) (hres : bothB op a b = res) :
    Calls Tryz.prog 58 #[.slice A1 a.length c1, .slice A2 b.length c2, .func (.func g) #[] #[]] w fun e w' => ∃ v : Value, e = .returned v ∧ Kd.R k67 67 w' w.heap.size (fun _ => True) v res ∧ Below w.heap.size w w' := by
  obtain ⟨k1, hk1⟩ := ev_get (impl_ClassOk_ev a hr1.2.1)
  obtain ⟨k2, hk2⟩ := ev_get (impl_ClassOk_ev b hr2.2.1)
  have HK1 := q_ hk1
  have HK2 := q_ hk2
  have HR1 := q_ hr1
  have HR2 := q_ hr2
  have HC1 := q_ hc1
  have HC2 := q_ hc2
  have HQ := Lib.hid hq
  have HB := q_ (Below.refl w.heap.size w)
  have HRS := q_ hres
  clear hk1 hk2 hr1 hr2 hc1 hc2 hq hres
  cases ha : classB a with
  | false =>
    rw [ha] at HK1
    have hr0 : J0 (res = []) := ⟨by rw [← HRS.o]; unfold bothB; rw [ha]; rfl⟩
    clear HRS ha
    go_enter Tryz.func58, Tryz.ntmps58
    go_wp2_with (go_at_call 82; refine (impl_ClassOk.calls k1 A1 c1 a false _ (Kd.C_below HR1.o HB.o) HC1.o HK1.o).mono ?_; rintro e w1 ⟨rfl, hb⟩; replace HB := sb_ HB hb; clear hb)
    go_ret
    exact ⟨_, rfl, by rw [hr0.o]; exact Kd.R_nil _ _ _ _ _, HB.o⟩
  | true =>
    rw [ha] at HK1
    have oka := q_ (class_bounds a ha)
    cases hb : classB b with
    | false =>
      rw [hb] at HK2
      have hr0 : J0 (res = []) := ⟨by rw [← HRS.o]; unfold bothB; rw [ha, hb]; rfl⟩
      clear HRS ha hb
      go_enter Tryz.func58, Tryz.ntmps58
      go_wp2_with (first | (go_at_call 82; with_reducible refine (impl_ClassOk.calls k1 A1 c1 a true _ ?h1 HC1.o HK1.o).mono ?_; (case h1 => exact Kd.C_below HR1.o HB.o); rintro e w1 ⟨rfl, hb⟩; replace HB := sb_ HB hb; clear hb) | (go_at_call 82; with_reducible refine (impl_ClassOk.calls k2 A2 c2 b false _ ?h2 HC2.o HK2.o).mono ?_; (case h2 => exact Kd.C_below HR2.o HB.o); rintro e w1 ⟨rfl, hb⟩; replace HB := sb_ HB hb; clear hb))
      go_ret
      exact ⟨_, rfl, by rw [hr0.o]; exact Kd.R_nil _ _ _ _ _, HB.o⟩
    | true =>
      rw [hb] at HK2
      have okb := q_ (class_bounds b hb)
      have hr0 : J0 (classTo (fun i => op (inAny a i) (inAny b i)) 256 = res) := ⟨by rw [← HRS.o]; unfold bothB; rw [ha, hb]; rfl⟩
      clear HRS ha hb
      obtain ⟨pa, hpa⟩ : ∃ q : Nat → Bool, q = inAny a := ⟨_, rfl⟩
      obtain ⟨pb, hpb⟩ : ∃ q : Nat → Bool, q = inAny b := ⟨_, rfl⟩
      have hBA := Lib.hid fun W h => bytesOf_hand A1 c1 a W h oka.o
      have hBB := Lib.hid fun W h => bytesOf_hand A2 c2 b W h okb.o
      rw [← hpa] at hr0 hBA
      rw [← hpb] at hr0 hBB
      clear hpa hpb oka okb
      have T1 : J0 True := ⟨trivial⟩
      have T2 : J0 True := ⟨trivial⟩
      have T7 : J0 True := ⟨trivial⟩
      have T8 : J0 True := ⟨trivial⟩
      have T9 : J0 True := ⟨trivial⟩
      go_enter Tryz.func58, Tryz.ntmps58
      go_wp2_with (first | (go_at_call 82; with_reducible refine (impl_ClassOk.calls k1 A1 c1 a true _ ?h1 HC1.o HK1.o).mono ?_; (case h1 => exact Kd.C_below HR1.o HB.o); rintro e w1 ⟨rfl, hb⟩; replace HB := sb_ HB hb; clear hb) | (go_at_call 82; with_reducible refine (impl_ClassOk.calls k2 A2 c2 b true _ ?h2 HC2.o HK2.o).mono ?_; (case h2 => exact Kd.C_below HR2.o HB.o); rintro e w1 ⟨rfl, hb⟩; replace HB := sb_ HB hb; clear hb) | (go_at_call 83; clear T1; refine (hBA.out _ (Kd.C_below HR1.o HB.o)).mono ?_; rintro e w1 ⟨rfl, hb⟩; replace HB := sb_ HB hb; clear hb) | (go_at_call 83; clear T2; refine (hBB.out _ (Kd.C_below HR2.o HB.o)).mono ?_; rintro e w1 ⟨rfl, hb⟩; replace HB := sb_ HB hb; clear hb) | ((with_reducible refine gate_dst (N := 7) rfl ?_); refine bx_ 7 Tryz.zeroCells124 124 ?_; intro g7 hg w7 hbox hb; have B7 := q_ hbox; have GE7 := ge_ hg HB; replace HB := sb_ HB hb; clear hbox hb hg) | ((with_reducible refine gate_dst (N := 8) rfl ?_); refine bx_ 8 Tryz.zeroCells124 124 ?_; intro g8 hg w8 hbox hb; have B8 := q_ hbox; have GE8 := ge_ hg HB; have N78 := nl_ hg B7; replace B7 := lb_ B7 hb; replace HB := sb_ HB hb; clear hbox hb hg) | ((with_reducible refine gate_dst (N := 9) rfl ?_); refine bx_ 9 Tryz.zeroCells124 124 ?_; intro g9 hg w9 hbox hb; have B9 := q_ hbox; have GE9 := ge_ hg HB; have N79 := nl_ hg B7; have N89 := nl_ hg B8; replace B7 := lb_ B7 hb; replace B8 := lb_ B8 hb; replace HB := sb_ HB hb; clear hbox hb hg) | ((with_reducible refine gate_store (t := 124) (p := 7) rfl ?_); clear T7; refine wpList_store_row rfl 124 _ _ rfl g7 (arrF pa) rfl rfl 124 Tryz.zeroCells124 B7.o (arr_infoF _) (by rw [arr_zero, arrF_size, arrF_size]) (arrF_one _) ?_; generalize hW7 : World.setRow _ g7 (arrF pa) = w17; have n7_ := q_ (show w17.heap[g7]? = some (.cells (arrF pa) 124 (0, 0)) by rw [← hW7]; exact setRow_heap _ _ _ _ _ _ B7.o); have n8_ := q_ (show w17.heap[g8]? = some (.cells Tryz.zeroCells124 124 (0, 0)) by rw [← hW7]; exact (setRow_other _ _ _ _ N78.o.symm).trans B8.o); have n9_ := q_ (show w17.heap[g9]? = some (.cells Tryz.zeroCells124 124 (0, 0)) by rw [← hW7]; exact (setRow_other _ _ _ _ N79.o.symm).trans B9.o); have nB_ := q_ (show Below w.heap.size w w17 by rw [← hW7]; exact below_setRow HB.o GE7.o _); clear B7 B8 B9 HB hW7; have B7 := n7_; have B8 := n8_; have B9 := n9_; have HB := nB_; clear n7_ n8_ n9_ nB_) | ((with_reducible refine gate_store (t := 124) (p := 8) rfl ?_); clear T8; refine wpList_store_row rfl 124 _ _ rfl g8 (arrF pb) rfl rfl 124 Tryz.zeroCells124 B8.o (arr_infoF _) (by rw [arr_zero, arrF_size, arrF_size]) (arrF_one _) ?_; generalize hW8 : World.setRow _ g8 (arrF pb) = w18; have n7_ := q_ (show w18.heap[g7]? = some (.cells (arrF pa) 124 (0, 0)) by rw [← hW8]; exact (setRow_other _ _ _ _ N78.o).trans B7.o); have n8_ := q_ (show w18.heap[g8]? = some (.cells (arrF pb) 124 (0, 0)) by rw [← hW8]; exact setRow_heap _ _ _ _ _ _ B8.o); have n9_ := q_ (show w18.heap[g9]? = some (.cells Tryz.zeroCells124 124 (0, 0)) by rw [← hW8]; exact (setRow_other _ _ _ _ N89.o.symm).trans B9.o); have nB_ := q_ (show Below w.heap.size w w18 by rw [← hW8]; exact below_setRow HB.o GE8.o _); clear B7 B8 B9 HB hW8; have B7 := n7_; have B8 := n8_; have B9 := n9_; have HB := nB_; clear n7_ n8_ n9_ nB_) | ((with_reducible refine gate_store (t := 124) (p := 9) rfl ?_); clear T9; refine wpList_store_row rfl 124 _ _ rfl g9 Tryz.zeroCells124 rfl rfl 124 Tryz.zeroCells124 B9.o arr_infoZ rfl arr_oneZ ?_; rw [setRow_self _ _ _ _ _ B9.o]))
      go_loopg [24] 256 (fun gg s24 wr => ∃ kk : Nat, kk ≤ 256 ∧ 256 - kk ≤ gg ∧ s24 = .int .i64 kk ∧ J0 (wr.heap[g7]? = some (.cells (arrF pa) 124 (0, 0))) ∧ J0 (wr.heap[g8]? = some (.cells (arrF pb) 124 (0, 0))) ∧ J0 (wr.heap[g9]? = some (.cells (arrF fun i => decide (i < kk) && op (pa i) (pb i)) 124 (0, 0))) ∧ J0 (Below w.heap.size w wr))
      case atStart => exact ⟨0, by omega, by omega, rfl, B7, B8, ⟨by rw [B9.o, arr_zero]; congr 2⟩, HB⟩
      case round =>
        clear B7 B8 B9 HB
        obtain ⟨kk, hkk, hgg, rfl, B7, B8, B9, HB⟩ := hrel
        by_cases hlt : kk < 256
        · have hz : ((kk : Int) < 256) = True := eq_true (by omega)
          have hzb : decide ((kk : Int) < 256) = true := decide_eq_true (by omega)
          go_wp2
          have hc7 : wr.drew.cell? ⟨g7, kk, none⟩ = some (.bool (pa kk)) := arr_cell B7.o kk hlt
          have hc8 : wr.drew.cell? ⟨g8, kk, none⟩ = some (.bool (pb kk)) := arr_cell B8.o kk hlt
          replace B7 := q_ (blk_drew B7.o)
          replace B8 := q_ (blk_drew B8.o)
          replace B9 := q_ (blk_drew B9.o)
          replace HB := q_ (below_drew1 HB.o)
          refine start_ (n := 11) (S := fun w' => w'.cell? ⟨g7, kk, none⟩ = some (.bool (pa kk)) ∧ w'.cell? ⟨g8, kk, none⟩ = some (.bool (pb kk))) (ds := [10]) (bb 11 0) (by kernel_rfl) rfl rfl ⟨hc7, hc8⟩ (fun hHeld => ?_)
          generalize wr.drew = w14 at B7 B8 B9 HB hc7 hc8 hHeld ⊢
          refine pk_ 0 27 1 ?_
          refine pk_ 1 28 3 ?_
          refine pk_ 2 29 7 ?_
          refine pk_ 3 30 15 ?_
          refine pk_ 5 32 47 ?_
          refine pk_ 6 33 111 ?_
          refine tk_ 4 31 127 hHeld ?_
          refine tk_ 7 34 255 hHeld ?_
          refine one_ (i := 8) (N := some 35) (bb 11 511) rfl rfl (by kernel_rfl) (by decide) (fun K hK => ?_)
          refine goesT_ hgf hgn hgb #[.bool (pa kk), .bool (pb kk)] (by rfl) rfl rfl rfl (by (try simp only [List.map_toArray, List.map_cons, List.map_nil]); first | done | rfl) ?_
          refine (HQ.out w14 (pa kk) (pb kk)).mono ?_
          rintro e w' ⟨rfl, ⟨nd, rfl⟩⟩
          refine ⟨_, rfl, ?_⟩
          refine hK.out _ _ ⟨hc7, hc8⟩ (fun hHeld => ?_)
          clear hK K
          refine no_ (some 35) ?_
          refine pk_ 9 36 1023 ?_
          have hc9 : (w14.drewN nd).cell? ⟨g9, kk, none⟩ = some (.bool (decide (kk < kk) && op (pa kk) (pb kk))) := arr_cell B9.o kk hlt
          have hf9 : (w14.drewN nd).frozen? ⟨g9, kk, none⟩ = false := blk_frozen B9.o kk
          refine last_ (i := 10) (N := none) (bb 11 2047) rfl rfl (by kernel_rfl) (by decide) (fun K hK => ?_)
          refine skip_ (w1 := ((w14.drewN nd).setCell ⟨g9, kk, none⟩ (.bool (op (pa kk) (pb kk))))) (by rfl) rfl ?_ ?_
          · first | (go_simp; done) | (go_simp; rfl)
          refine hK.out _ _ ?_
          clear hK K
          refine done_ (by kernel_rfl) ?_
          have n7_ := q_ (show ((w14.drewN nd).setCell ⟨g9, kk, none⟩ (.bool (op (pa kk) (pb kk)))).heap[g7]? = some (.cells (arrF pa) 124 (0, 0)) from blk_far (blk_drewN B7.o nd) N79.o _)
          have n8_ := q_ (show ((w14.drewN nd).setCell ⟨g9, kk, none⟩ (.bool (op (pa kk) (pb kk)))).heap[g8]? = some (.cells (arrF pb) 124 (0, 0)) from blk_far (blk_drewN B8.o nd) N89.o _)
          have n9_ := q_ (show ((w14.drewN nd).setCell ⟨g9, kk, none⟩ (.bool (op (pa kk) (pb kk)))).heap[g9]? = some (.cells (arrF fun i => decide (i < kk + 1) && op (pa i) (pb i)) 124 (0, 0)) by rw [arr_put (blk_drewN B9.o nd) kk _]; congr 2; exact arrF_congr _ _ fun i _ => both_step (fun i => op (pa i) (pb i)) i kk (fun e => by rw [e]))
          have nB_ := q_ (show Below w.heap.size w ((w14.drewN nd).setCell ⟨g9, kk, none⟩ (.bool (op (pa kk) (pb kk)))) from below_set (pw_below_drewN HB.o nd) GE9.o)
          clear B7 B8 B9 HB hc7 hc8 hc9 hf9 hHeld
          generalize (w14.drewN nd).setCell ⟨g9, kk, none⟩ (.bool (op (pa kk) (pb kk))) = w15 at *
          go_wp2
          go_roundg (256 - (kk + 1))
          case measure => omega
          case rel => exact ⟨kk + 1, by omega, Nat.le_refl _, by go_num, n7_, n8_, n9_, nB_⟩
        · have hz : ((kk : Int) < 256) = False := eq_false (by omega)
          have hzb : decide ((kk : Int) < 256) = false := decide_eq_false (by omega)
          have hk : kk = 256 := by omega
          subst hk
          have B9' := q_ (show wr.heap[g9]? = some (.cells (arrF fun i => op (pa i) (pb i)) 124 (0, 0)) by rw [B9.o, arrF_congr (fun i => decide (i < 256) && op (pa i) (pb i)) (fun i => op (pa i) (pb i)) (fun i hi => by simp only [decide_eq_true hi, Bool.true_and])])
          have T4 : J0 True := ⟨trivial⟩
          go_wp2_with (first | ((with_reducible refine gate_dst (N := 38) rfl ?_); clear T4; refine wpList_load_row rfl 124 _ rfl g9 rfl 124 (arrF fun i => op (pa i) (pb i)) (0, 0) _ B9'.out Tryz.underlying124 rfl (arr_infoF _) ?_) | (go_at_call 84; refine (class_hand (fun i => op (pa i) (pb i)) _ res hr0.o).mono ?_; rintro e w1 ⟨v, rfl, ho, hb⟩; have HO := q_ (Kd.R_lower ho (below_size HB.o)); replace HB := sb_ HB hb; clear ho hb))
          go_ret
          exact ⟨_, rfl, HO.o, HB.o⟩
def joinI (a b : List S67) : List S67 := bothB (fun x y => x || y) a b
theorem Joined_hand (A1 A2 : Option Addr) (c1 c2 : Nat) (a b : List S67) (w : World) (hr1 : Kd.C k67 w A1 a.length a) (hc1 : a.length ≤ c1) (hr2 : Kd.C k67 w A2 b.length b) (hc2 : b.length ≤ c2) (res : List S67) (hres : joinI a b = res) :
    Calls Tryz.prog 30 #[.slice A1 a.length c1, .slice A2 b.length c2] w fun e w' => ∃ v : Value, e = .returned v ∧ Kd.R k67 67 w' w.heap.size (fun _ => True) v res ∧ Below w.heap.size w w' := by
  unfold joinI at hres
  have hn_ : (Tryz.f59.name == "runtime.NumGoroutine") = false := by kernel_rfl
  have hb_ : Tryz.f59.body.isSome = true := rfl
  have HC := q_ (combined_hand (fun x y => x || y) 59 Tryz.f59 Tryz.func59 hn_ hb_ (fun W x y => Joined_1_calls W x y) A1 A2 c1 c2 a b w hr1 hc1 hr2 hc2 res hres)
  clear hr1 hc1 hr2 hc2 hres hn_ hb_
  go_enter Tryz.func30, Tryz.ntmps30
  go_wp2_with (go_at_call 58; refine HC.o.mono ?_; rintro e w1 ⟨v, rfl, ho, hb⟩; have HO := q_ ho; have HB := q_ hb; clear ho hb)
  go_ret
  exact ⟨_, rfl, HO.o, HB.o⟩
end Go.Proofs.YtijmhelacmjggaaGreat.P
namespace Go.Proofs.YtijmhelacmjggaaGreat.P
open Go.RowKit Go.Proofs.YtijmhelacmjggaaGreatW.PrintWords Go.Proofs.YtijmhelacmjggaaGreatW.PrintLast Go.Proofs.YtijmhelacmjggaaGreatW.PrintMore Go.Proofs.YtijmhelacmjggaaGreatEv
set_option linter.unusedVariables false
set_option linter.unusedSimpArgs false
def endR : Int → List S67 → Int
  | last, [] => last
  | _, s :: rest => endR s.f1 rest
theorem spansR_snoc (y : S67) : ∀ (l : List S67) (last : Int), spansR last (l ++ [y]) = (spansR last l && spansR (endR last l) [y])
  | [], last => rfl
  | s :: l, last => by
    have h := spansR_snoc y l s.f1
    show (_ && spansR s.f1 (l ++ [y])) = ((_ && spansR s.f1 l) && spansR (endR s.f1 l) [y])
    rw [h, ← Bool.and_assoc]
theorem endR_snoc (y : S67) : ∀ (l : List S67) (last : Int), endR last (l ++ [y]) = y.f1
  | [], _ => rfl
  | s :: l, _ => by simp only [List.cons_append, endR, endR_snoc y l s.f1]
theorem inAny_snoc (y : S67) (l : List S67) (i : Nat) : inAny (l ++ [y]) i = (inAny l i || decide (y.f0 ≤ (i : Int) ∧ (i : Int) ≤ y.f1)) := by
  simp [inAny]
theorem rd_snoc (y : S67) (l : List S67) (J : Int) (h : J = (l.length : Int)) : rd_T67 (l ++ [y]) J = y := by
  subst h
  simp [rd_T67]
theorem set_snoc (y z : S67) (l : List S67) (J : Int) (h : J = (l.length : Int)) : (l ++ [y]).set J.toNat z = l ++ [z] := by
  subst h
  simp
theorem addRun_right (xs : List S67) (b : Nat) (hb : b ≤ 255) (h : spansR (-2) xs = true) (he : endR (-2) xs < (b : Int)) (hq : -2 ≤ endR (-2) xs) :
    spansR (-2) (addRun xs (b : Int)) = true ∧ endR (-2) (addRun xs (b : Int)) = (b : Int) ∧ ∀ i : Nat, inAny (addRun xs (b : Int)) i = (inAny xs i || decide (i = b)) := by
  rcases List.eq_nil_or_concat xs with h0 | ⟨l, y, h0⟩
  · subst h0
    refine ⟨?_, ?_, ?_⟩
    · simp [addRun, spansR]; omega
    · simp [addRun, endR]
    · intro i
      simp only [addRun, inAny, List.length_nil, List.any_nil, Bool.false_or, List.nil_append, List.any_cons, Bool.or_false]
      rw [if_neg (by omega)]
      simp only [List.any_cons, List.any_nil, Bool.or_false]
      exact decide_eq_decide.2 (by omega)
  · rw [List.concat_eq_append] at h0
    subst h0
    rw [endR_snoc] at he hq
    have hs := h
    rw [spansR_snoc] at hs
    simp only [spansR, Bool.and_eq_true, decide_eq_true_eq, and_true] at hs
    obtain ⟨hl, ⟨⟨hy0, hy1⟩, hy2⟩, hy3⟩ := hs
    unfold addRun
    rw [if_pos (by simp), rd_snoc y l _ (by simp), set_snoc y _ l _ (by simp)]
    by_cases hj : y.f1 = (b : Int) - 1
    · rw [if_pos hj]
      refine ⟨?_, endR_snoc _ _ _, ?_⟩
      · rw [spansR_snoc, hl]
        simp only [spansR, Bool.true_and, Bool.and_eq_true, decide_eq_true_eq, and_true]
        omega
      · intro i
        rw [inAny_snoc, inAny_snoc, Bool.or_assoc]
        congr 1
        rw [← Bool.decide_or]
        refine decide_eq_decide.2 ?_
        dsimp only
        omega
    · rw [if_neg hj]
      refine ⟨?_, endR_snoc _ _ _, ?_⟩
      · rw [spansR_snoc, h, endR_snoc]
        simp only [spansR, Bool.true_and, Bool.and_eq_true, decide_eq_true_eq, and_true]
        omega
      · intro i
        rw [inAny_snoc]
        congr 1
        refine decide_eq_decide.2 ?_
        dsimp only
        omega
theorem classTo_right (p : Nat → Bool) : ∀ n : Nat, n ≤ 256 → spansR (-2) (classTo p n) = true ∧ (-2 ≤ endR (-2) (classTo p n) ∧ endR (-2) (classTo p n) < (n : Int)) ∧ ∀ i : Nat, inAny (classTo p n) i = (decide (i < n) && p i)
  | 0, _ => ⟨rfl, by simp [classTo, endR], fun i => by simp [classTo, inAny]⟩
  | n + 1, hn => by
    obtain ⟨h1, ⟨h2, h2'⟩, h3⟩ := classTo_right p n (by omega)
    unfold classTo
    cases hp : p n
    · rw [if_neg (by simp)]
      refine ⟨h1, ⟨h2, by omega⟩, fun i => ?_⟩
      rw [h3]
      by_cases hi : i = n
      · subst hi; simp [hp]
      · rw [decide_eq_decide.2 (show (i < n) ↔ (i < n + 1) by omega)]
    · rw [if_pos rfl]
      obtain ⟨g1, g2, g3⟩ := addRun_right (classTo p n) n (by omega) h1 h2' h2
      refine ⟨g1, ⟨by omega, by omega⟩, fun i => ?_⟩
      rw [g3, h3]
      by_cases hi : i = n
      · subst hi; simp [hp]
      · rw [decide_eq_decide.2 (show (i < n) ↔ (i < n + 1) by omega), decide_eq_false hi, Bool.or_false]
theorem inAny_low : ∀ (l : List S67) (last : Int), spansR last l = true → ∀ i : Nat, (i : Int) ≤ last + 1 → inAny l i = false
  | [], _, _, _, _ => rfl
  | s :: l, last, h, i, hi => by
    simp only [spansR, Bool.and_eq_true, decide_eq_true_eq] at h
    have := inAny_low l s.f1 h.2 i (by omega)
    simp only [inAny, List.any_cons] at this ⊢
    rw [this, decide_eq_false (by omega)]
    rfl
theorem inAny_cons (s : S67) (l : List S67) (i : Nat) : inAny (s :: l) i = (decide (s.f0 ≤ (i : Int) ∧ (i : Int) ≤ s.f1) || inAny l i) := rfl
theorem class_one : ∀ (a b : List S67) (last last' : Int), spansR last a = true → spansR last' b = true → (∀ i : Nat, i < 256 → inAny a i = inAny b i) → a = b
  | [], [], _, _, _, _, _ => rfl
  | [], s :: b, _, last, _, h, hi => by
    simp only [spansR, Bool.and_eq_true, decide_eq_true_eq] at h
    have := hi s.f0.toNat (by omega)
    rw [inAny_cons, decide_eq_true (by omega)] at this
    simp [inAny] at this
  | s :: a, [], last, _, h, _, hi => by
    simp only [spansR, Bool.and_eq_true, decide_eq_true_eq] at h
    have := hi s.f0.toNat (by omega)
    rw [inAny_cons, decide_eq_true (by omega)] at this
    simp [inAny] at this
  | s :: a, t :: b, last, last', h, h', hi => by
    simp only [spansR, Bool.and_eq_true, decide_eq_true_eq] at h h'
    have la := inAny_low a s.f1 h.2
    have lb := inAny_low b t.f1 h'.2
    have e0 : s.f0 = t.f0 := by
      have i1 := hi s.f0.toNat (by omega)
      have i2 := hi t.f0.toNat (by omega)
      rw [inAny_cons, inAny_cons, decide_eq_true (by omega), Bool.true_or] at i1
      rw [inAny_cons, inAny_cons, Bool.or_comm, decide_eq_true (p := t.f0 ≤ _ ∧ _) (by omega), Bool.true_or] at i2
      by_cases hlt : s.f0 < t.f0
      · rw [decide_eq_false (by omega), lb _ (by omega)] at i1
        simp at i1
      · by_cases hgt : t.f0 < s.f0
        · rw [decide_eq_false (by omega), la _ (by omega)] at i2
          simp at i2
        · omega
    have e1 : s.f1 = t.f1 := by
      by_cases hlt : s.f1 < t.f1
      · have i1 := hi (s.f1 + 1).toNat (by omega)
        rw [inAny_cons, inAny_cons, decide_eq_false (by omega), la _ (by omega), decide_eq_true (by omega)] at i1
        simp at i1
      · by_cases hgt : t.f1 < s.f1
        · have i1 := hi (t.f1 + 1).toNat (by omega)
          rw [inAny_cons, inAny_cons, decide_eq_true (by omega), decide_eq_false (by omega), lb _ (by omega)] at i1
          simp at i1
        · omega
    obtain ⟨s0, s1⟩ := s
    obtain ⟨t0, t1⟩ := t
    dsimp only at e0 e1 h h' la lb
    subst e0 e1
    congr 1
    refine class_one a b s1 s1 h.2 h'.2 fun i h256 => ?_
    by_cases hi1 : (i : Int) ≤ s1 + 1
    · rw [la i hi1, lb i hi1]
    · have := hi i h256
      rw [inAny_cons, inAny_cons, decide_eq_false (by show ¬ (s0 ≤ (i : Int) ∧ (i : Int) ≤ s1); omega)] at this
      exact this
theorem classTo_back (l : List S67) (h : classB l = true) (n : Nat) (hn : n = 256) : classTo (inAny l) n = l := by
  obtain ⟨h1, _, h2⟩ := classTo_right (inAny l) n (by omega)
  refine class_one _ _ (-2) (-2) h1 h fun i hi => ?_
  rw [h2, decide_eq_true (by omega)]
  rfl
theorem classB_to (p : Nat → Bool) (n : Nat) (hn : n = 256) : classB (classTo p n) = true := (classTo_right p n (by omega)).1
theorem joinI_right (a b : List S67) : classB (joinI a b) = true := by
  unfold joinI bothB
  split
  · exact classB_to _ _ rfl
  · rfl
theorem joinI_nil (a : List S67) (h : classB a = true) : joinI a [] = a := by
  unfold joinI bothB
  rw [h, if_pos (by rfl)]
  refine Eq.trans ?_ (classTo_back a h 256 rfl)
  refine classTo_congr _ _ (fun i _ => ?_) 256 (Nat.le_refl _)
  simp [inAny]
end Go.Proofs.YtijmhelacmjggaaGreat.P
namespace Go.Proofs.YtijmhelacmjggaaGreat.P
open Go.RowKit Go.Proofs.YtijmhelacmjggaaGreatW.PrintWords Go.Proofs.YtijmhelacmjggaaGreatW.PrintLast Go.Proofs.YtijmhelacmjggaaGreatW.PrintMore
attribute [local go_sem] max2_int min2_int max_two min_two max_three min_three max_four min_four
set_option linter.unusedVariables false
set_option linter.unusedSimpArgs false
/-! ### impl_Joined: function 30 -/
def impl_Joined.f (l0 : List (S67)) (l1 : List (S67)) : Option (List (S67)) := some (joinI l0 l1)
theorem impl_Joined.calls (A0 : Option Addr) (c0 : Nat) (l0 : List (S67)) (A1 : Option Addr) (c1 : Nat) (l1 : List (S67)) (r : List (S67)) (w : World) (hr0 : Kd.C k67 w A0 l0.length l0) (hc0 : l0.length ≤ c0) (hr1 : Kd.C k67 w A1 l1.length l1) (hc1 : l1.length ≤ c1) (h : impl_Joined.f l0 l1 = some r) :
    Calls Tryz.prog 30 #[.slice A0 l0.length c0, .slice A1 l1.length c1] w fun e w' => ∃ v0_ : Value, e = .returned (v0_) ∧ Kd.R k67 67 w' w.heap.size (fun _ => True) v0_ r ∧ Below w.heap.size w w' := Joined_hand A0 A1 c0 c1 l0 l1 w hr0 hc0 hr1 hc1 r (Option.some.inj h)
/-! ### impl_Rx_first: function 61 -/
def impl_Rx_first.f : Nat → List (S121) → Int → Option ((List (S67)))
 | 0, _, _ => none
 | k + 1, l0_0, a1 => if 0 ≤ a1 then (if a1 < (l0_0.length : Int) then (if ((rd_T121 l0_0 a1).f0) = 1 then (some ([] : List (S67))) else (if ((rd_T121 l0_0 a1).f0) = 2 then (some ((rd_T121 l0_0 a1).f1)) else (if ((rd_T121 l0_0 a1).f0) = 3 then (if 0 < (((rd_T121 l0_0 a1).f2).length : Int) then ((impl_Rx_nullable.f k l0_0 (rd ((rd_T121 l0_0 a1).f2) 0)).bind fun t105 => (if t105 = true then ((impl_Rx_first.f k l0_0 (rd ((rd_T121 l0_0 a1).f2) 0)).bind fun t111 => (if 1 < (((rd_T121 l0_0 a1).f2).length : Int) then ((impl_Rx_first.f k l0_0 (rd ((rd_T121 l0_0 a1).f2) 1)).bind fun t115 => ((impl_Joined.f t111 t115).bind fun t118 => (some t118))) else (none))) else ((impl_Rx_first.f k l0_0 (rd ((rd_T121 l0_0 a1).f2) 0)).bind fun t107 => (some t107)))) else (none)) else (if ((rd_T121 l0_0 a1).f0) = 4 then (if 0 < (((rd_T121 l0_0 a1).f2).length : Int) then ((impl_Rx_first.f k l0_0 (rd ((rd_T121 l0_0 a1).f2) 0)).bind fun t122 => (if 1 < (((rd_T121 l0_0 a1).f2).length : Int) then ((impl_Rx_first.f k l0_0 (rd ((rd_T121 l0_0 a1).f2) 1)).bind fun t126 => ((impl_Joined.f t122 t126).bind fun t129 => (some t129))) else (none))) else (none)) else (if 0 < (((rd_T121 l0_0 a1).f2).length : Int) then ((impl_Rx_first.f k l0_0 (rd ((rd_T121 l0_0 a1).f2) 0)).bind fun t133 => (some t133)) else (none)))))) else (none)) else (none)
theorem impl_Rx_first.calls (k : Nat) : ∀ (A : Option Addr) (c : Nat) (l : List S121) (i : Int) (r : List S67) (w : World) (hr : Kd.C k121 w A l.length l) (hc : l.length ≤ c) (h : impl_Rx_first.f k l i = some r),
    Calls Tryz.prog 61 #[.agg #[.slice A l.length c], .int .i64 i] w fun e w' => ∃ A' c', e = .returned (.slice A' r.length c') ∧ r.length ≤ c' ∧ Kd.C k67 w' A' r.length r ∧ Below w.heap.size w w' := by
  induction k using Nat.strongRecOn with
  | _ k ih =>
  intro A c l i r w hr hc h
  cases k with
  | zero => exact absurd h (by simp [impl_Rx_first.f])
  | succ k =>
  simp only [impl_Rx_first.f] at h
  by_cases p0 : 0 ≤ i
  rotate_left
  · rw [if_neg p0] at h; exact absurd h (by simp)
  by_cases q0 : i < (l.length : Int)
  rotate_left
  · rw [if_pos p0, if_neg q0] at h; exact absurd h (by simp)
  rw [if_pos p0, if_pos q0] at h
  obtain ⟨ad, A1, c1, A2, c2, e, hx0, hx1, hx2, hx3, hx4, hl1, hi1, hl2, hi2⟩ := at_T121 hr i p0 q0
  subst e
  have HR := q_ hr; have HC := q_ hc; have HI1 := q_ hi1; have HL1 := q_ hl1; have HI2 := q_ hi2; have HL2 := q_ hl2
  clear hr hc hi1 hl1 hi2 hl2
  generalize rd_T121 l i = n at *
  have IH := q_ (ih k (by omega)); clear ih
  have HH := q_ h; clear h
  have HB := q_ (Below.refl w.heap.size w)
  have T0 : J0 True := ⟨trivial⟩; have T1 : J0 True := ⟨trivial⟩
  replace p0 := eq_true p0; replace q0 := eq_true q0
  go_enter Tryz.func61, Tryz.ntmps61
  go_upto_region 3 with (first
    | ((with_reducible refine gate_dst (N := 2) rfl ?_); clear T0; refine bx_ 2 #[.slice (some ad) l.length c] 58 ?_; intro g1 hg w1 hbox hb; have BK1 := q_ hbox; have GE1 := ge_ hg HB; replace HB := sb_ HB hb; replace hx0 := mv_ HB.o hx0; replace hx1 := mv_ HB.o hx1; replace hx2 := mv_ HB.o hx2; replace hx3 := mv_ HB.o hx3; replace hx4 := mv_ HB.o hx4; clear hb hbox hg; obtain ⟨hcz, hfz⟩ := d1_ BK1)
    | ((with_reducible refine gate_dst (N := 5) rfl ?_); clear T1; refine bx_ 5 #[.int .i64 0, .slice none 0 0, .slice none 0 0, .int .i64 0, .int .i64 0] 121 ?_; intro g3 hg w3 hbox hb; have BK3 := q_ hbox; have GE3 := ge1_ hg HB GE1; have NB := nl_ hg BK1; replace BK1 := lb_ BK1 hb; replace HB := sb1_ HB GE1 hb; clear hb hbox hg; obtain ⟨hy0, hy1, hy2, hy3, hy4, hf0, hf1, hf2, hf3, hf4⟩ := d5_ BK3))
  generalize hW_ : (((((w3.setCell ⟨g3, 0, none⟩ (.int .i64 n.f0)).setCell ⟨g3, 1, none⟩ (.slice A1 n.f1.length c1)).setCell ⟨g3, 2, none⟩ (.slice A2 n.f2.length c2)).setCell ⟨g3, 3, none⟩ (.int .i64 n.f3)).setCell ⟨g3, 4, none⟩ (.int .i64 n.f4)) = w5
  replace BK1 := bf5_ hW_ BK1 NB; replace BK3 := bp5_ hW_ BK3; replace HB := bw5_ hW_ (be2_ HB.o GE1.o GE3.o)
  clear hW_ hx0 hx1 hx2 hx3 hx4 hcz hfz hy0 hy1 hy2 hy3 hy4 hf0 hf1 hf2 hf3 hf4 GE1 GE3 NB p0 q0
  have H := HH.o; clear HH
  by_cases c1 : n.f0 = 1
  · rw [if_pos c1] at H
    obtain rfl := Option.some.inj H
    have e1 : (n.f0 == 1) = true := beq_iff_eq.mpr c1
    clear c1 H
    go_wp2
    go_ret
    exact ⟨none, 0, rfl, Nat.le_refl _, Kd.C_nil _ _, HB.o⟩
  rw [if_neg c1] at H
  have e1 : (n.f0 == 1) = false := beq_eq_false_iff_ne.mpr c1
  clear c1
  by_cases c2 : n.f0 = 2
  · rw [if_pos c2] at H
    obtain rfl := Option.some.inj H
    have e2 : (n.f0 == 2) = true := beq_iff_eq.mpr c2
    clear c2 H
    obtain ⟨hy0, hy1, hy2, hy3, hy4, hf0, hf1, hf2, hf3, hf4⟩ := d5_ BK3
    go_wp2
    go_ret
    exact ⟨A1, _, rfl, HL1.o, Kd.C_below HI1.o HB.o, HB.o⟩
  rw [if_neg c2] at H
  have e2 : (n.f0 == 2) = false := beq_eq_false_iff_ne.mpr c2
  clear c2
  by_cases q : 0 < (n.f2.length : Int)
  rotate_left
  · simp only [if_neg q, ite_self] at H
    exact absurd H (by simp)
  simp only [if_pos q] at H
  obtain ⟨ad2, e, hk0⟩ := Kd.at_int HI2.o 0 (by omega) q
  subst e
  rw [show (0 : Int).toNat = 0 from rfl, Addr.add_zero'] at hk0
  have q2 : (0 < n.f2.length) = True := eq_true (by omega)
  have q1 := q; replace q := eq_true q
  have z0 : (0 ≤ (0 : Int)) = True := eq_true (by omega)
  by_cases c3 : n.f0 = 3
  · rw [if_pos c3] at H
    have e3 : (n.f0 == 3) = true := beq_iff_eq.mpr c3
    clear c3
    obtain ⟨b, EN, H⟩ := ob_ H
    go_wp2
    replace BK1 := q_ (blk_drew BK1.o); replace BK3 := q_ (blk_drew BK3.o); replace HB := q_ (below_drew1 HB.o)
    refine start_ (n := 7) (S := fun w' => w'.cell? ⟨g1, 0, none⟩ = some (.slice (some ad) l.length c) ∧ w'.cell? ⟨g3, 2, none⟩ = some (.slice (some ad2) n.f2.length c2) ∧ w'.cell? ad2 = some (.int .i64 (rd n.f2 0))) (ds := []) (bb 7 0) (by kernel_rfl) rfl rfl ⟨(blk_cell BK1.o 0).trans rfl, (blk_cell BK3.o 2).trans rfl, mv_ HB.o hk0⟩ (fun hS => ?_)
    generalize World.drew _ = wd at BK1 BK3 HB hS ⊢
    refine pk_ 1 22 2 ?_; refine tk_ 0 21 3 hS ?_; refine tk_ 2 23 7 hS ?_; refine pk_ 3 24 15 ?_; refine tk_ 4 25 31 hS ?_
    refine one_ (i := 5) (N := some 26) (bb 7 63) rfl rfl (by kernel_rfl) (by decide) (fun K hK => ?_)
    refine gs_ Tryz.func87 #[.agg #[.slice (some ad) l.length c], .int .i64 (rd n.f2 0)] ?_
    with_reducible refine (impl_Rx_nullable.calls k _ _ l (rd n.f2 0) b _ (Kd.C_below HR.o (be_ HB.o)) HC.o EN.o).mono ?_
    rintro e w7 ⟨rfl, hb⟩
    refine ⟨_, rfl, ?_⟩
    replace BK1 := lb_ BK1 hb; replace BK3 := lb_ BK3 hb; replace HB := sb_ HB hb
    clear hb
    refine hK.out _ _ ⟨(blk_cell BK1.o 0).trans rfl, (blk_cell BK3.o 2).trans rfl, mv_ HB.o hk0⟩ (fun hS => ?_)
    clear hK K
    refine no_ (some 26) ?_; refine pk_ 6 27 127 ?_
    refine done_ (by kernel_rfl) ?_
    cases b
    · obtain ⟨t0, E0, H⟩ := ob_ ((if_neg nft_).symm.trans H)
      obtain rfl := Option.some.inj H
      clear q1
      go_wp2
      replace BK1 := q_ (blk_drew BK1.o); replace BK3 := q_ (blk_drew BK3.o); replace HB := q_ (below_drew1 HB.o)
      refine start_ (n := 7) (S := fun w' => w'.cell? ⟨g1, 0, none⟩ = some (.slice (some ad) l.length c) ∧ w'.cell? ⟨g3, 2, none⟩ = some (.slice (some ad2) n.f2.length c2) ∧ w'.cell? ad2 = some (.int .i64 (rd n.f2 0))) (ds := []) (bb 7 0) (by kernel_rfl) rfl rfl ⟨(blk_cell BK1.o 0).trans rfl, (blk_cell BK3.o 2).trans rfl, mv_ HB.o hk0⟩ (fun hS => ?_)
      generalize World.drew _ = wd at BK1 BK3 HB hS ⊢
      refine pk_ 1 29 2 ?_; refine tk_ 0 28 3 hS ?_; refine tk_ 2 30 7 hS ?_; refine pk_ 3 31 15 ?_; refine tk_ 4 32 31 hS ?_
      refine one_ (i := 5) (N := some 33) (bb 7 63) rfl rfl (by kernel_rfl) (by decide) (fun K hK => ?_)
      refine gs_ Tryz.func61 #[.agg #[.slice (some ad) l.length c], .int .i64 (rd n.f2 0)] ?_
      with_reducible refine (IH.o _ _ l (rd n.f2 0) _ _ (Kd.C_below HR.o (be_ HB.o)) HC.o E0.o).mono ?_
      rintro e w7 ⟨B0, b0, rfl, hl, hC, hb⟩
      refine ⟨_, rfl, ?_⟩
      replace BK1 := lb_ BK1 hb; replace BK3 := lb_ BK3 hb; replace HB := sb_ HB hb
      clear hb
      refine hK.out _ _ ⟨(blk_cell BK1.o 0).trans rfl, (blk_cell BK3.o 2).trans rfl, mv_ HB.o hk0⟩ (fun hS => ?_)
      clear hK K
      refine no_ (some 33) ?_; refine pk_ 6 4 127 ?_
      refine done_ (by kernel_rfl) ?_
      go_wp2
      go_ret
      exact ⟨B0, b0, rfl, hl, hC, HB.o⟩
    · replace H := (if_pos rfl).symm.trans H
      obtain ⟨t0, E0, H⟩ := ob_ H
      by_cases qq : 1 < (n.f2.length : Int)
      rotate_left
      · rw [if_neg qq] at H
        exact absurd H (by simp)
      rw [if_pos qq] at H
      obtain ⟨t1, E1, H⟩ := ob_ H
      obtain ⟨t2, E2, H⟩ := ob_ H
      obtain rfl := Option.some.inj H
      obtain ⟨ad3, e, hk1⟩ := Kd.at_int HI2.o 1 (by omega) qq
      obtain rfl : ad2 = ad3 := by injection e
      simp only [show (1 : Int).toNat = 1 from rfl, Go.Addr.add, Nat.reduceMul, Nat.reduceEqDiff, ↓reduceIte] at hk1
      have q3 : (1 < n.f2.length) = True := eq_true (by omega)
      replace qq := eq_true qq
      have z1 : (0 ≤ (1 : Int)) = True := eq_true (by omega)
      clear q1 e
      go_wp2
      replace BK1 := q_ (blk_drew BK1.o); replace BK3 := q_ (blk_drew BK3.o); replace HB := q_ (below_drew1 HB.o)
      refine start_ (n := 14) (S := fun w' => w'.cell? ⟨g1, 0, none⟩ = some (.slice (some ad) l.length c) ∧ w'.cell? ⟨g3, 2, none⟩ = some (.slice (some ad2) n.f2.length c2) ∧ w'.cell? ad2 = some (.int .i64 (rd n.f2 0)) ∧ w'.cell? ⟨ad2.block, ad2.off + 1, none⟩ = some (.int .i64 (rd n.f2 1))) (ds := []) (bb 14 0) (by kernel_rfl) rfl rfl ⟨(blk_cell BK1.o 0).trans rfl, (blk_cell BK3.o 2).trans rfl, mv_ HB.o hk0, mv_ HB.o hk1⟩ (fun hS => ?_)
      generalize World.drew _ = wd at BK1 BK3 HB hS ⊢
      refine pk_ 1 35 2 ?_; refine pk_ 7 41 130 ?_; refine tk_ 0 34 131 hS ?_; refine tk_ 2 36 135 hS ?_; refine pk_ 3 37 143 ?_; refine tk_ 4 38 159 hS ?_; refine tk_ 6 40 223 hS ?_; refine tk_ 8 42 479 hS ?_; refine pk_ 9 43 991 ?_; refine tk_ 10 44 2015 hS ?_
      refine one_ (i := 5) (N := some 39) (bb 14 2047) rfl rfl (by kernel_rfl) (by decide) (fun K hK => ?_)
      refine gs_ Tryz.func61 #[.agg #[.slice (some ad) l.length c], .int .i64 (rd n.f2 0)] ?_
      with_reducible refine (IH.o _ _ l (rd n.f2 0) t0 _ (Kd.C_below HR.o (be_ HB.o)) HC.o E0.o).mono ?_
      rintro e w7 ⟨B0, b0, rfl, hl, hC, hb⟩
      refine ⟨_, rfl, ?_⟩
      have HL0 := q_ hl; have HC0 := q_ hC; clear hl hC
      replace BK1 := lb_ BK1 hb; replace BK3 := lb_ BK3 hb; replace HB := sb_ HB hb
      clear hb
      refine hK.out _ _ ⟨(blk_cell BK1.o 0).trans rfl, (blk_cell BK3.o 2).trans rfl, mv_ HB.o hk0, mv_ HB.o hk1⟩ (fun hS => ?_)
      clear hK K
      refine no_ (some 39) ?_
      refine one_ (i := 11) (N := some 45) (bb 14 4095) rfl rfl (by kernel_rfl) (by decide) (fun K hK => ?_)
      refine gs_ Tryz.func61 #[.agg #[.slice (some ad) l.length c], .int .i64 (rd n.f2 1)] ?_
      with_reducible refine (IH.o _ _ l (rd n.f2 1) t1 _ (Kd.C_below HR.o (be_ HB.o)) HC.o E1.o).mono ?_
      rintro e w8 ⟨B1, b1, rfl, hl, hC, hb⟩
      refine ⟨_, rfl, ?_⟩
      have HL4 := q_ hl; have HC4 := q_ hC; clear hl hC
      replace BK1 := lb_ BK1 hb; replace BK3 := lb_ BK3 hb; replace HB := sb_ HB hb
      replace HC0 := q_ (Kd.C_below HC0.o hb)
      clear hb
      refine hK.out _ _ ⟨(blk_cell BK1.o 0).trans rfl, (blk_cell BK3.o 2).trans rfl, mv_ HB.o hk0, mv_ HB.o hk1⟩ (fun hS => ?_)
      clear hK K
      refine no_ (some 45) ?_
      refine one_ (i := 12) (N := some 46) (bb 14 8191) rfl rfl (by kernel_rfl) (by decide) (fun K hK => ?_)
      refine gs_ Tryz.func30 #[.slice B0 t0.length b0, .slice B1 t1.length b1] ?_
      with_reducible refine (impl_Joined.calls _ _ t0 _ _ t1 _ _ HC0.o HL0.o HC4.o HL4.o E2.o).mono ?_
      rintro e w9 ⟨v, rfl, hO, hb⟩
      obtain ⟨B2, b2, rfl, hl, hC⟩ := Kd.R_reads hO
      refine ⟨_, rfl, ?_⟩
      replace BK1 := lb_ BK1 hb; replace BK3 := lb_ BK3 hb; replace HB := sb_ HB hb
      clear hb
      refine hK.out _ _ ⟨(blk_cell BK1.o 0).trans rfl, (blk_cell BK3.o 2).trans rfl, mv_ HB.o hk0, mv_ HB.o hk1⟩ (fun hS => ?_)
      clear hK K
      refine no_ (some 46) ?_; refine pk_ 13 4 16383 ?_
      refine done_ (by kernel_rfl) ?_
      go_wp2
      go_ret
      exact ⟨B2, b2, rfl, hl, hC, HB.o⟩
  rw [if_neg c3] at H
  have e3 : (n.f0 == 3) = false := beq_eq_false_iff_ne.mpr c3
  clear c3
  by_cases c4 : n.f0 = 4
  · rw [if_pos c4] at H
    have e4 : (n.f0 == 4) = true := beq_iff_eq.mpr c4
    clear c4
    obtain ⟨t0, E0, H⟩ := ob_ H
    by_cases qq : 1 < (n.f2.length : Int)
    rotate_left
    · rw [if_neg qq] at H
      exact absurd H (by simp)
    rw [if_pos qq] at H
    obtain ⟨t1, E1, H⟩ := ob_ H
    obtain ⟨t2, E2, H⟩ := ob_ H
    obtain rfl := Option.some.inj H
    obtain ⟨ad3, e, hk1⟩ := Kd.at_int HI2.o 1 (by omega) qq
    obtain rfl : ad2 = ad3 := by injection e
    simp only [show (1 : Int).toNat = 1 from rfl, Go.Addr.add, Nat.reduceMul, Nat.reduceEqDiff, ↓reduceIte] at hk1
    have q3 : (1 < n.f2.length) = True := eq_true (by omega)
    replace qq := eq_true qq
    have z1 : (0 ≤ (1 : Int)) = True := eq_true (by omega)
    clear q1 e
    go_wp2
    replace BK1 := q_ (blk_drew BK1.o); replace BK3 := q_ (blk_drew BK3.o); replace HB := q_ (below_drew1 HB.o)
    refine start_ (n := 14) (S := fun w' => w'.cell? ⟨g1, 0, none⟩ = some (.slice (some ad) l.length c) ∧ w'.cell? ⟨g3, 2, none⟩ = some (.slice (some ad2) n.f2.length c2) ∧ w'.cell? ad2 = some (.int .i64 (rd n.f2 0)) ∧ w'.cell? ⟨ad2.block, ad2.off + 1, none⟩ = some (.int .i64 (rd n.f2 1))) (ds := []) (bb 14 0) (by kernel_rfl) rfl rfl ⟨(blk_cell BK1.o 0).trans rfl, (blk_cell BK3.o 2).trans rfl, mv_ HB.o hk0, mv_ HB.o hk1⟩ (fun hS => ?_)
    generalize World.drew _ = wd at BK1 BK3 HB hS ⊢
    refine pk_ 1 50 2 ?_; refine pk_ 7 56 130 ?_; refine tk_ 0 49 131 hS ?_; refine tk_ 2 51 135 hS ?_; refine pk_ 3 52 143 ?_; refine tk_ 4 53 159 hS ?_; refine tk_ 6 55 223 hS ?_; refine tk_ 8 57 479 hS ?_; refine pk_ 9 58 991 ?_; refine tk_ 10 59 2015 hS ?_
    refine one_ (i := 5) (N := some 54) (bb 14 2047) rfl rfl (by kernel_rfl) (by decide) (fun K hK => ?_)
    refine gs_ Tryz.func61 #[.agg #[.slice (some ad) l.length c], .int .i64 (rd n.f2 0)] ?_
    with_reducible refine (IH.o _ _ l (rd n.f2 0) t0 _ (Kd.C_below HR.o (be_ HB.o)) HC.o E0.o).mono ?_
    rintro e w7 ⟨B0, b0, rfl, hl, hC, hb⟩
    refine ⟨_, rfl, ?_⟩
    have HL0 := q_ hl; have HC0 := q_ hC; clear hl hC
    replace BK1 := lb_ BK1 hb; replace BK3 := lb_ BK3 hb; replace HB := sb_ HB hb
    clear hb
    refine hK.out _ _ ⟨(blk_cell BK1.o 0).trans rfl, (blk_cell BK3.o 2).trans rfl, mv_ HB.o hk0, mv_ HB.o hk1⟩ (fun hS => ?_)
    clear hK K
    refine no_ (some 54) ?_
    refine one_ (i := 11) (N := some 60) (bb 14 4095) rfl rfl (by kernel_rfl) (by decide) (fun K hK => ?_)
    refine gs_ Tryz.func61 #[.agg #[.slice (some ad) l.length c], .int .i64 (rd n.f2 1)] ?_
    with_reducible refine (IH.o _ _ l (rd n.f2 1) t1 _ (Kd.C_below HR.o (be_ HB.o)) HC.o E1.o).mono ?_
    rintro e w8 ⟨B1, b1, rfl, hl, hC, hb⟩
    refine ⟨_, rfl, ?_⟩
    have HL4 := q_ hl; have HC4 := q_ hC; clear hl hC
    replace BK1 := lb_ BK1 hb; replace BK3 := lb_ BK3 hb; replace HB := sb_ HB hb
    replace HC0 := q_ (Kd.C_below HC0.o hb)
    clear hb
    refine hK.out _ _ ⟨(blk_cell BK1.o 0).trans rfl, (blk_cell BK3.o 2).trans rfl, mv_ HB.o hk0, mv_ HB.o hk1⟩ (fun hS => ?_)
    clear hK K
    refine no_ (some 60) ?_
    refine one_ (i := 12) (N := some 61) (bb 14 8191) rfl rfl (by kernel_rfl) (by decide) (fun K hK => ?_)
    refine gs_ Tryz.func30 #[.slice B0 t0.length b0, .slice B1 t1.length b1] ?_
    with_reducible refine (impl_Joined.calls _ _ t0 _ _ t1 _ _ HC0.o HL0.o HC4.o HL4.o E2.o).mono ?_
    rintro e w9 ⟨v, rfl, hO, hb⟩
    obtain ⟨B2, b2, rfl, hl, hC⟩ := Kd.R_reads hO
    refine ⟨_, rfl, ?_⟩
    replace BK1 := lb_ BK1 hb; replace BK3 := lb_ BK3 hb; replace HB := sb_ HB hb
    clear hb
    refine hK.out _ _ ⟨(blk_cell BK1.o 0).trans rfl, (blk_cell BK3.o 2).trans rfl, mv_ HB.o hk0, mv_ HB.o hk1⟩ (fun hS => ?_)
    clear hK K
    refine no_ (some 61) ?_; refine pk_ 13 4 16383 ?_
    refine done_ (by kernel_rfl) ?_
    go_wp2
    go_ret
    exact ⟨B2, b2, rfl, hl, hC, HB.o⟩
  rw [if_neg c4] at H
  have e4 : (n.f0 == 4) = false := beq_eq_false_iff_ne.mpr c4
  clear c4 q1
  obtain ⟨t0, E0, H⟩ := ob_ H
  obtain rfl := Option.some.inj H
  go_wp2
  replace BK1 := q_ (blk_drew BK1.o); replace BK3 := q_ (blk_drew BK3.o); replace HB := q_ (below_drew1 HB.o)
  refine start_ (n := 7) (S := fun w' => w'.cell? ⟨g1, 0, none⟩ = some (.slice (some ad) l.length c) ∧ w'.cell? ⟨g3, 2, none⟩ = some (.slice (some ad2) n.f2.length c2) ∧ w'.cell? ad2 = some (.int .i64 (rd n.f2 0))) (ds := []) (bb 7 0) (by kernel_rfl) rfl rfl ⟨(blk_cell BK1.o 0).trans rfl, (blk_cell BK3.o 2).trans rfl, mv_ HB.o hk0⟩ (fun hS => ?_)
  generalize World.drew _ = wd at BK1 BK3 HB hS ⊢
  refine pk_ 1 63 2 ?_; refine tk_ 0 62 3 hS ?_; refine tk_ 2 64 7 hS ?_; refine pk_ 3 65 15 ?_; refine tk_ 4 66 31 hS ?_
  refine one_ (i := 5) (N := some 67) (bb 7 63) rfl rfl (by kernel_rfl) (by decide) (fun K hK => ?_)
  refine gs_ Tryz.func61 #[.agg #[.slice (some ad) l.length c], .int .i64 (rd n.f2 0)] ?_
  with_reducible refine (IH.o _ _ l (rd n.f2 0) _ _ (Kd.C_below HR.o (be_ HB.o)) HC.o E0.o).mono ?_
  rintro e w7 ⟨B0, b0, rfl, hl, hC, hb⟩
  refine ⟨_, rfl, ?_⟩
  replace BK1 := lb_ BK1 hb; replace BK3 := lb_ BK3 hb; replace HB := sb_ HB hb
  clear hb
  refine hK.out _ _ ⟨(blk_cell BK1.o 0).trans rfl, (blk_cell BK3.o 2).trans rfl, mv_ HB.o hk0⟩ (fun hS => ?_)
  clear hK K
  refine no_ (some 67) ?_; refine pk_ 6 4 127 ?_
  refine done_ (by kernel_rfl) ?_
  go_wp2
  go_ret
  exact ⟨B0, b0, rfl, hl, hC, HB.o⟩
/-! ### impl_FirstOf: function 31 -/
def impl_FirstOf.f (k : Nat) (l0_0 : List (S121)) : Option ((List (S67))) := (impl_RxOk.f k l0_0).bind fun t102 => (if t102 = true then ((impl_Rx_last.f l0_0).bind fun t103 => ((impl_Rx_first.f k l0_0 t103).bind fun t104 => ((impl_Joined.f t104 ([] : List (S67))).bind fun t107 => (some t107)))) else (some ([] : List (S67))))
theorem impl_FirstOf.calls (k : Nat) (A : Option Addr) (c : Nat) (l : List S121) (r : List S67) (w : World) (hr : Kd.C k121 w A l.length l) (hc : l.length ≤ c) (h : impl_FirstOf.f k l = some r) :
    Calls Tryz.prog 31 #[.agg #[.slice A l.length c]] w fun e w' => ∃ v0_ : Value, e = .returned (v0_) ∧ Kd.R k67 67 w' w.heap.size (fun _ => True) v0_ r ∧ Below w.heap.size w w' := by
  unfold impl_FirstOf.f at h
  obtain ⟨b, E0, H⟩ := ob_ h
  have HR := q_ hr; have HC := q_ hc; have HB := q_ (Below.refl w.heap.size w); have T0 : J0 True := ⟨trivial⟩; have T1 : J0 True := ⟨trivial⟩
  clear hr hc h
  cases b
  · obtain rfl := Option.some.inj ((if_neg nft_).symm.trans H)
    clear H
    go_enter Tryz.func31, Tryz.ntmps31
    go_wp2_with (first
      | ((with_reducible refine gate_dst (N := 1) rfl ?_); clear T0; refine bx_ 1 #[.slice A l.length c] 58 ?_; intro g hg w1 hbox hb; have BK := q_ hbox; replace HB := sb_ HB hb; clear hb hbox hg; obtain ⟨hcz, hfz⟩ := d1_ BK)
      | (go_at_call 60; clear T1; (with_reducible refine (impl_RxOk.calls k _ _ l _ _ (Kd.C_below HR.o (be_ HB.o)) HC.o E0.o).mono ?_); rintro e w2 ⟨rfl, hb⟩; replace HB := sb_ HB hb; clear hb))
    go_ret
    exact ⟨_, rfl, Kd.R_nil _ _ _ _ _, HB.o⟩
  · replace H := (if_pos rfl).symm.trans H
    obtain ⟨i, E1, H⟩ := ob_ H; obtain ⟨t, E2, H⟩ := ob_ H; obtain ⟨r2, E3, H⟩ := ob_ H
    obtain rfl := Option.some.inj H
    clear H
    go_enter Tryz.func31, Tryz.ntmps31
    go_wp2_with (first
      | ((with_reducible refine gate_dst (N := 1) rfl ?_); clear T0; refine bx_ 1 #[.slice A l.length c] 58 ?_; intro g hg w1 hbox hb; have BK := q_ hbox; replace HB := sb_ HB hb; clear hb hbox hg; obtain ⟨hcz, hfz⟩ := d1_ BK)
      | (go_at_call 60; clear T1; (with_reducible refine (impl_RxOk.calls k _ _ l _ _ (Kd.C_below HR.o (be_ HB.o)) HC.o E0.o).mono ?_); rintro e w2 ⟨rfl, hb⟩; replace BK := lb_ BK hb; replace HB := sb_ HB hb; clear hb))
    replace BK := q_ (blk_drew BK.o); replace HB := q_ (below_drew1 HB.o)
    refine start_ (n := 6) (S := fun w' => w'.cell? ⟨g, 0, none⟩ = some (.slice A l.length c)) (ds := []) (bb 6 0) (by kernel_rfl) rfl rfl ((blk_cell BK.o 0).trans rfl) (fun hS => ?_)
    generalize World.drew _ = wd at BK HB hS ⊢
    refine tk_ 0 6 1 hS ?_; refine tk_ 1 7 3 hS ?_
    refine one_ (i := 2) (N := some 8) (bb 6 7) rfl rfl (by kernel_rfl) (by decide) (fun K hK => ?_)
    refine gs_ Tryz.func62 #[.agg #[.slice A l.length c]] ?_
    with_reducible refine (impl_Rx_last.calls _ _ l i _ (Kd.C_below HR.o (be_ HB.o)) HC.o E1.o).mono ?_
    rintro e w3 ⟨rfl, hb⟩
    refine ⟨_, rfl, ?_⟩
    replace BK := lb_ BK hb; replace HB := sb_ HB hb; clear hb
    refine hK.out _ _ ((blk_cell BK.o 0).trans rfl) (fun hS => ?_)
    clear hK K; refine no_ (some 8) ?_
    refine one_ (i := 3) (N := some 9) (bb 6 15) rfl rfl (by kernel_rfl) (by decide) (fun K hK => ?_)
    refine gs_ Tryz.func61 #[.agg #[.slice A l.length c], .int .i64 i] ?_
    with_reducible refine (impl_Rx_first.calls k _ _ l i t _ (Kd.C_below HR.o (be_ HB.o)) HC.o E2.o).mono ?_
    rintro e w4 ⟨A1, c1, rfl, hl, hC, hb⟩
    refine ⟨_, rfl, ?_⟩
    have HL := q_ hl; have HX := q_ hC; clear hl hC
    replace BK := lb_ BK hb; replace HB := sb_ HB hb; clear hb
    refine hK.out _ _ ((blk_cell BK.o 0).trans rfl) (fun hS => ?_)
    clear hK K; refine no_ (some 9) ?_
    refine one_ (i := 4) (N := some 10) (bb 6 31) rfl rfl (by kernel_rfl) (by decide) (fun K hK => ?_)
    refine gs_ Tryz.func30 #[.slice A1 t.length c1, .slice none 0 0] ?_
    refine (impl_Joined.calls _ _ t _ _ ([] : List S67) r2 _ HX.o HL.o (Kd.C_nil _ _) (Nat.le_refl _) E3.o).mono ?_
    rintro e w5 ⟨v, rfl, hO, hb⟩
    refine ⟨_, rfl, ?_⟩
    have HO := q_ (Kd.R_lower hO HB.o.size); clear hO
    replace BK := lb_ BK hb; replace HB := sb_ HB hb; clear hb
    refine hK.out _ _ ((blk_cell BK.o 0).trans rfl) (fun hS => ?_)
    clear hK K; refine no_ (some 10) ?_; refine pk_ 5 2 63 ?_
    refine done_ (by kernel_rfl) ?_
    go_wp2
    go_ret
    exact ⟨_, rfl, HO.o, HB.o⟩
/-! ### spec_l1Marks: function 78 -/
mutual
def spec_l1Marks.l0 : Nat → List (S67) → List Bool → Int → Option (List Bool)
 | 0, _, _, _ => none
 | k + 1, x0, x3, x4 => if x4 < (x0.length : Int) then (if 0 ≤ x4 then (spec_l1Marks.l1 k x0 x3 x4 ((rd_T67 x0 x4).f0)) else (none)) else (some x3)
def spec_l1Marks.l1 : Nat → List (S67) → List Bool → Int → Int → Option (List Bool)
 | 0, _, _, _, _ => none
 | k + 1, x0, x3, x4, x5 => if 0 ≤ x4 then (if x4 < (x0.length : Int) then (if x5 ≤ ((rd_T67 x0 x4).f1) then (if 0 ≤ x5 then (if x5 < (x3.length : Int) then (spec_l1Marks.l1 k x0 (x3.set (x5 : Int).toNat true) x4 (wrap64 (x5 + 1))) else (none)) else (none)) else (spec_l1Marks.l0 k x0 x3 (wrap64 (x4 + 1)))) else (none)) else (none)
end
def spec_l1Marks.f (k : Nat) (l0 : List (S67)) : Option (List Bool) := if 256 ≤ 281474976710656 then (spec_l1Marks.l0 k l0 (List.replicate 256 false) 0) else (none)
theorem spec_l1Marks.calls (k : Nat) (A0 : Option Addr) (c0 : Nat) (l0 : List (S67)) (r : List Bool) (w : World) (hr0 : Kd.C k67 w A0 l0.length l0) (hc0 : l0.length ≤ c0) (h : spec_l1Marks.f k l0 = some r) :
  Calls Tryz.prog 78 #[.slice A0 l0.length c0] w fun e w' => ∃ v0_ : Value, e = .returned (v0_) ∧ Kd.R Kd.bool 4 w' w.heap.size (fun _ => True) v0_ r ∧ Below w.heap.size w w' := by
 have HR0 := q_ hr0; have HC0 := q_ hc0; clear hr0 hc0; have HB := q_ (Below.refl w.heap.size w)
 have H : (if 256 ≤ 281474976710656 then (spec_l1Marks.l0 k l0 (List.replicate 256 false) 0) else (none)) = some r := h
 clear h
 by_cases c2 : 256 ≤ 281474976710656
 ·rw [if_pos c2] at H; have c2b0 := eq_true c2; have c2b1 := dt_ c2; clear c2
  obtain ⟨y101, hy101⟩ : ∃ y_ : List Bool, y_ = (List.replicate 256 false) := ⟨_, rfl⟩
  replace H : (spec_l1Marks.l0 k l0 y101 0) = some r := by first | (rw [hy101]; with_reducible exact H) | (have H2_ := (Option.bind_some _ _).symm.trans H; rw [hy101]; with_reducible exact H2_) | (have H2_ := (Option.bind_some _ _).symm.trans H; with_reducible exact H2_) | with_reducible exact H | (rw [hy101]; exact H) | exact H
  have Ny101 := q_ hy101; clear hy101
  have H' := q_ H
  clear H
  go_enter Tryz.func78, Tryz.ntmps78
  go_wp2_with (first | ((with_reducible refine gate_dst (N := 6) rfl ?_); refine Kd.R_make Kd.bool _ 4 rfl (N := 6) rfl 114 _ _ rfl 256 rfl rfl Tryz.underlying114 (.bool false) 1 info4 rfl (by decide) (by omega) false (ok := fun _ => True) (okp := fun _ => True) rfl (fun _ hk => hk) trivial (by omega) (by omega) (Below.refl _ _) (Nat.le_refl _) ?_; intro v102 w3 ho4 hb hg_ hnew_; clear hg_ hnew_; (first | rw [← Ny101.o] at ho4 | (simp only [Int.reduceToNat] at ho4; rw [← Ny101.o] at ho4)); have HO103 := q_ (Kd.R_lower ho4 (below_size (be_ HB.o))); replace HB := sb_ HB hb; clear hb ho4))
  go_loopg [4] k (fun kq v4 w' => ∃ (x3_1 : List Bool) (x4_1 : Int), v4 = .int .i64 x4_1 ∧ J0 (spec_l1Marks.l0 kq l0 x3_1 x4_1 = some r) ∧ J0 (kq ≤ k) ∧ J0 (Kd.R Kd.bool 4 w' w.heap.size (fun _ => True) v102 x3_1) ∧ J0 (Below w.heap.size w w'))
  case atStart => exact ⟨(y101), (0), rs_, H', ⟨Nat.le_refl _⟩, ⟨ra_ HO103.o⟩, ⟨be_ HB.o⟩⟩
  case round =>
   clear H'; (try clear c2); (try clear c2b0); (try clear c2b1); obtain ⟨x3_1, x4_1, rfl, HA, HK1, HO_3, HB⟩ := hrel
   cases gk with
   | zero => exact absurd HA.o (by simp [spec_l1Marks.l0])
   | succ k1 =>
    have H := HA.o; clear HA
    simp only [spec_l1Marks.l0] at H
    by_cases c5 : x4_1 < (l0.length : Int)
    ·rw [if_pos c5] at H; have c5b0 := dt_ c5; clear c5
     by_cases c6 : 0 ≤ x4_1
     ·rw [if_pos c6] at H; have c6b0 := dt_ c6; clear c6
      have H' := q_ H
      clear H
      have p104 : 0 ≤ (x4_1 : Int) := of_decide_eq_true as_
      have q104 : x4_1 < (l0.length : Int) := of_decide_eq_true as_
      obtain ⟨ad104, e104, hx104_0, hx104_1⟩ := at_T67 HR0.o x4_1 p104 q104
      cases e104
      replace hx104_0 := mv_ HB.o hx104_0; replace hx104_1 := mv_ HB.o hx104_1; replace p104 := eq_true p104; replace q104 := eq_true q104
      go_wp2
      go_loopg [5] k1 (fun kq v5 w' => ∃ (x3_2 : List Bool) (x5_2 : Int), v5 = .int .i64 x5_2 ∧ J0 (spec_l1Marks.l1 kq l0 x3_2 x4_1 x5_2 = some r) ∧ J0 (kq ≤ k1) ∧ J0 (Kd.R Kd.bool 4 w' w.heap.size (fun _ => True) v102 x3_2) ∧ J0 (Below w.heap.size w w'))
      case atStart => exact ⟨(x3_1), ((rd_T67 l0 x4_1).f0), rs_, H', ⟨Nat.le_refl _⟩, ⟨ra_ HO_3.o⟩, ⟨be_ HB.o⟩⟩
      case round =>
       clear H'; (try clear c2); (try clear c2b0); (try clear c2b1); (try clear c5); (try clear c5b0); (try clear c6); (try clear c6b0); (try clear hx104_0); (try clear hx104_1); (try clear p104); (try clear q104); obtain ⟨x3_2, x5_2, rfl, HA, HK2, HO_3, HB⟩ := hrel
       cases gk with
       | zero => exact absurd HA.o (by simp [spec_l1Marks.l1])
       | succ k2 =>
        have H := HA.o; clear HA
        simp only [spec_l1Marks.l1] at H
        by_cases c7 : 0 ≤ x4_1
        ·rw [if_pos c7] at H; have c7b0 := dt_ c7; clear c7
         by_cases c8 : x4_1 < (l0.length : Int)
         ·rw [if_pos c8] at H; have c8b0 := dt_ c8; clear c8
          by_cases c9 : x5_2 ≤ ((rd_T67 l0 x4_1).f1)
          ·rw [if_pos c9] at H; have c9b0 := dt_ c9; clear c9
           by_cases c10 : 0 ≤ x5_2
           ·rw [if_pos c10] at H; have c10b0 := dt_ c10; clear c10
            by_cases c11 : x5_2 < (x3_2.length : Int)
            ·rw [if_pos c11] at H; have c11b0 := dt_ c11; clear c11
             obtain ⟨y106, hy106⟩ : ∃ y_ : List Bool, y_ = (x3_2.set (x5_2 : Int).toNat true) := ⟨_, rfl⟩
             replace H : (spec_l1Marks.l1 k2 l0 y106 x4_1 (wrap64 (x5_2 + 1))) = some r := by first | (rw [hy106]; with_reducible exact H) | (have H2_ := (Option.bind_some _ _).symm.trans H; rw [hy106]; with_reducible exact H2_) | (have H2_ := (Option.bind_some _ _).symm.trans H; with_reducible exact H2_) | with_reducible exact H | (rw [hy106]; exact H) | exact H
             have Ny106 := q_ hy106; clear hy106
             have H' := q_ H
             clear H
             have p105 : 0 ≤ (x4_1 : Int) := of_decide_eq_true as_
             have q105 : x4_1 < (l0.length : Int) := of_decide_eq_true as_
             obtain ⟨ad105, e105, hx105_0, hx105_1⟩ := at_T67 HR0.o x4_1 p105 q105
             obtain rfl : ad104 = ad105 := (by injection e105)
             replace hx105_0 := mv_ HB.o hx105_0; replace hx105_1 := mv_ HB.o hx105_1; replace p105 := eq_true p105; replace q105 := eq_true q105
             have p12 : 0 ≤ (x5_2 : Int) := of_decide_eq_true as_
             have q12 : (x5_2 : Int) < ((x3_2.length : Int) : Int) := of_decide_eq_true as_
             obtain ⟨go12, co12, eo12, gb12, gl12, cl12, HG12⟩ := Kd.R_form HO_3.o (by omega)
             (first | cases eo12 | (injection eo12 with ea_ en_ ec_; (first | subst ea_ | (injection ea_ with ea_; subst ea_)); subst ec_; clear en_))
             have GB12 := q_ gb12; have GG12 := q_ HG12; clear gb12 gl12 HG12; obtain ⟨hx12_0, hf12_0⟩ := Kd.R_celln false HO_3.o (x5_2 : Int) p12 q12; replace p12 := eq_true p12; replace q12 := eq_true q12; have HP13 := Kd.R_putg HO_3.o (x5_2 : Int) true
             go_wp2_with (first | ((with_reducible refine gate_store (t := 4) (p := 29) rfl ?_); refine store_event (t := 4) (p := 29) (v := ?vo_w14) (w1 := (wr.setCell ⟨go12, (x5_2 : Int).toNat, none⟩ (.bool true))) ?hg ?ho ?hn ?hr ?_; (case ho => rfl); (case hg => rfl); (case hn => rfl); (case hr => first | (go_simp; done) | (go_simp; rfl)); intro w14 hw; have hg : wr.grownBy w14 (some go12) := (by rw [hw]; exact HP13.2); have hp_ : Kd.R Kd.bool 4 w14 w.heap.size (fun _ => True) (.slice (some ⟨go12, 0, none⟩) x3_2.length co12) y106 := (by rw [hw, Ny106.o]; exact HP13.1); clear HP13; replace HO_3 := q_ (hp_); replace HB := q_ ((by rw [hw]; exact below_set (HB.o) GB12.out : Below w.heap.size w w14)); clear hg hw hp_))
             go_roundg k2
             case measure => have := HK1.o; have := HK2.o; omega
             case rel => exact ⟨(y106), (wrap64 (x5_2 + 1)), rs_, H', ⟨by have := HK1.o; have := HK2.o; omega⟩, ⟨ra_ HO_3.o⟩, ⟨be_ HB.o⟩⟩
            ·rw [if_neg c11] at H
             exact absurd H (by simp)
           ·rw [if_neg c10] at H
            exact absurd H (by simp)
          ·rw [if_neg c9] at H; have c9b0 := df_ c9; clear c9
           have H' := q_ H
           clear H
           have p105 : 0 ≤ (x4_1 : Int) := of_decide_eq_true as_
           have q105 : x4_1 < (l0.length : Int) := of_decide_eq_true as_
           obtain ⟨ad105, e105, hx105_0, hx105_1⟩ := at_T67 HR0.o x4_1 p105 q105
           obtain rfl : ad104 = ad105 := (by injection e105)
           replace hx105_0 := mv_ HB.o hx105_0; replace hx105_1 := mv_ HB.o hx105_1; replace p105 := eq_true p105; replace q105 := eq_true q105
           go_wp2
           go_roundg k2
           case measure => have := HK1.o; have := HK2.o; omega
           case rel => exact ⟨(x3_2), (wrap64 (x4_1 + 1)), rs_, H', ⟨by have := HK1.o; have := HK2.o; omega⟩, ⟨ra_ HO_3.o⟩, ⟨be_ HB.o⟩⟩
         ·rw [if_neg c8] at H
          exact absurd H (by simp)
        ·rw [if_neg c7] at H
         exact absurd H (by simp)
     ·rw [if_neg c6] at H
      exact absurd H (by simp)
    ·rw [if_neg c5] at H; have c5b0 := df_ c5; clear c5; obtain rfl := Option.some.inj H
     go_wp2
     go_ret
     exact ⟨_, rt_, ra_ HO_3.o, be_ HB.o⟩
 ·rw [if_neg c2] at H
  exact absurd H (by simp)
/-! ### spec_l1Class: function 79 -/
def spec_l1Class.l0 : Nat → List Bool → List (S67) → Int → Option ((List (S67)))
 | 0, _, _, _ => none
 | k + 1, x0, x3, x4 => if x4 < 256 then (if 0 ≤ x4 then (if x4 < (x0.length : Int) then (if rdOf false x0 x4 = true then (if (x3.length : Int) > 0 then (if 0 ≤ (wrap64 ((x3.length : Int) - 1)) then (if (wrap64 ((x3.length : Int) - 1)) < (x3.length : Int) then (if ((rd_T67 x3 (wrap64 ((x3.length : Int) - 1))).f1) = (wrap64 (x4 - 1)) then (spec_l1Class.l0 k x0 (x3.set ((wrap64 ((x3.length : Int) - 1)) : Int).toNat (⟨(rd_T67 x3 (wrap64 ((x3.length : Int) - 1))).f0, x4⟩ : S67)) (wrap64 (x4 + 1))) else (if x3.length < 8796093022208 then (spec_l1Class.l0 k x0 (x3 ++ [(⟨x4, x4⟩ : S67)]) (wrap64 (x4 + 1))) else (none))) else (none)) else (none)) else (if x3.length < 8796093022208 then (spec_l1Class.l0 k x0 (x3 ++ [(⟨x4, x4⟩ : S67)]) (wrap64 (x4 + 1))) else (none))) else (spec_l1Class.l0 k x0 x3 (wrap64 (x4 + 1)))) else (none)) else (none)) else (some x3)
def spec_l1Class.f (k : Nat) (l0 : List Bool) : Option ((List (S67))) := spec_l1Class.l0 k l0 (([] : List (S67))) 0
theorem spec_l1Class.calls (k : Nat) (A0 : Option Addr) (c0 : Nat) (l0 : List Bool) (r : List (S67)) (w : World) (hr0 : Kd.C Kd.bool w A0 l0.length l0) (hc0 : l0.length ≤ c0) (h : spec_l1Class.f k l0 = some r) :
  Calls Tryz.prog 79 #[.slice A0 l0.length c0] w fun e w' => ∃ v0_ : Value, e = .returned (v0_) ∧ Kd.R k67 67 w' w.heap.size (fun _ => True) v0_ r ∧ Below w.heap.size w w' := by
 have hu67 := Tryz.underlying67; have HR0 := q_ hr0; have HC0 := q_ hc0; clear hr0 hc0; have HB := q_ (Below.refl w.heap.size w)
 have H : (spec_l1Class.l0 k l0 (([] : List (S67))) 0) = some r := h
 clear h
 obtain ⟨y101, hy101⟩ : ∃ y_ : List (S67), y_ = (([] : List (S67))) := ⟨_, rfl⟩
 replace H : (spec_l1Class.l0 k l0 y101 0) = some r := by first | (rw [hy101]; with_reducible exact H) | (have H2_ := (Option.bind_some _ _).symm.trans H; rw [hy101]; with_reducible exact H2_) | (have H2_ := (Option.bind_some _ _).symm.trans H; with_reducible exact H2_) | with_reducible exact H | (rw [hy101]; exact H) | exact H
 have Ny101 := q_ hy101; clear hy101
 have H' := q_ H
 clear H
 go_enter Tryz.func79, Tryz.ntmps79
 go_wp2_with (first | ((with_reducible refine gate_dst (N := 5) rfl ?_); (try (refine gate_guard (by rfl) ?_; dsimp only)); refine Kd.R_lit k67 _ 67 ?hg (N := 5) ?hd (xs := ([] : List (S67))) (inner := []) (ok := fun _ => True) (okp := fun _ => True) ?hr ?hp (fun _ hk => hk) trivial (Below.refl _ _) (Nat.le_refl _) (by simp) ?_; (case hd => rfl); (case hg => rfl); (case hr => first | (go_simp; done) | (go_simp; rfl)); (case hp => exact (Reps.none _ _)); intro v102 w2 ho3 hb hg_ hnew_; clear hg_ hnew_; (first | rw [← Ny101.o] at ho3 | (simp only [Int.reduceToNat] at ho3; rw [← Ny101.o] at ho3)); have HO103 := q_ (Kd.R_lower ho3 (below_size (be_ HB.o))); replace HB := sb_ HB hb; clear hb ho3))
 go_loopg [3, 4] k (fun kq v3 v4 w' => ∃ (x3_1 : List (S67)) (x4_1 : Int), v4 = .int .i64 x4_1 ∧ J0 (spec_l1Class.l0 kq l0 x3_1 x4_1 = some r) ∧ J0 (kq ≤ k) ∧ J0 (Kd.R k67 67 w' w.heap.size (fun _ => True) v3 x3_1) ∧ J0 (Below w.heap.size w w'))
 case atStart => exact ⟨(y101), (0), rs_, H', ⟨Nat.le_refl _⟩, ⟨ra_ HO103.o⟩, ⟨be_ HB.o⟩⟩
 case round =>
  clear H'; obtain ⟨x3_1, x4_1, rfl, HA, HK1, HO_3, HB⟩ := hrel
  cases gk with
  | zero => exact absurd HA.o (by simp [spec_l1Class.l0])
  | succ k1 =>
   have H := HA.o; clear HA
   simp only [spec_l1Class.l0] at H
   by_cases c4 : x4_1 < 256
   ·rw [if_pos c4] at H; have c4b0 := dt_ c4; clear c4
    by_cases c5 : 0 ≤ x4_1
    ·rw [if_pos c5] at H; have c5b0 := dt_ c5; clear c5
     by_cases c6 : x4_1 < (l0.length : Int)
     ·rw [if_pos c6] at H; have c6b0 := dt_ c6; clear c6
      obtain ⟨bq7, hbq7⟩ : ∃ b_ : Bool, b_ = (rdOf false l0 x4_1) := ⟨_, rfl⟩
      replace H : (if bq7 = true then (if (x3_1.length : Int) > 0 then (if 0 ≤ (wrap64 ((x3_1.length : Int) - 1)) then (if (wrap64 ((x3_1.length : Int) - 1)) < (x3_1.length : Int) then (if ((rd_T67 x3_1 (wrap64 ((x3_1.length : Int) - 1))).f1) = (wrap64 (x4_1 - 1)) then (spec_l1Class.l0 k1 l0 (x3_1.set ((wrap64 ((x3_1.length : Int) - 1)) : Int).toNat (⟨(rd_T67 x3_1 (wrap64 ((x3_1.length : Int) - 1))).f0, x4_1⟩ : S67)) (wrap64 (x4_1 + 1))) else (if x3_1.length < 8796093022208 then (spec_l1Class.l0 k1 l0 (x3_1 ++ [(⟨x4_1, x4_1⟩ : S67)]) (wrap64 (x4_1 + 1))) else (none))) else (none)) else (none)) else (if x3_1.length < 8796093022208 then (spec_l1Class.l0 k1 l0 (x3_1 ++ [(⟨x4_1, x4_1⟩ : S67)]) (wrap64 (x4_1 + 1))) else (none))) else (spec_l1Class.l0 k1 l0 x3_1 (wrap64 (x4_1 + 1)))) = some r := by rw [← hbq7] at H; exact H
      have Nbq7 := q_ hbq7; clear hbq7
      by_cases c8 : bq7 = true
      ·subst c8; rw [if_pos rfl] at H
       by_cases c9 : (x3_1.length : Int) > 0
       ·rw [if_pos c9] at H
        have c9b0 : decide (0 < (x3_1.length : Int)) = true := dt_ c9
        have c9b1 : decide (0 < x3_1.length) = true := decide_eq_true (by omega)
        clear c9
        obtain ⟨ji10, hji10⟩ : ∃ j_ : Int, (wrap64 ((x3_1.length : Int) - 1)) = j_ := ⟨_, rfl⟩
        replace H : (if 0 ≤ (ji10) then (if (ji10) < (x3_1.length : Int) then (if ((rd_T67 x3_1 (ji10)).f1) = (wrap64 (x4_1 - 1)) then (spec_l1Class.l0 k1 l0 (x3_1.set ((ji10) : Int).toNat (⟨(rd_T67 x3_1 (ji10)).f0, x4_1⟩ : S67)) (wrap64 (x4_1 + 1))) else (if x3_1.length < 8796093022208 then (spec_l1Class.l0 k1 l0 (x3_1 ++ [(⟨x4_1, x4_1⟩ : S67)]) (wrap64 (x4_1 + 1))) else (none))) else (none)) else (none)) = some r := by first | (rw [hji10] at H; exact H) | (simp only [hji10] at H ⊢; exact H)
        have hji10w : (IntKind.i64.wrap ((x3_1.length : Int) - 1)) = ji10 := (i64_w _).trans hji10
        by_cases c11 : 0 ≤ (ji10)
        ·rw [if_pos c11] at H; have c11b0 := dt_ c11; clear c11
         by_cases c12 : (ji10) < (x3_1.length : Int)
         ·rw [if_pos c12] at H; have c12b0 := dt_ c12; clear c12
          by_cases c13 : ((rd_T67 x3_1 (ji10)).f1) = (wrap64 (x4_1 - 1))
          ·rw [if_pos c13] at H
           have c13b0 : (((rd_T67 x3_1 (ji10)).f1) == (wrap64 (x4_1 - 1))) = true := beq_iff_eq.mpr c13
           have c13b1 : (((rd_T67 x3_1 (ji10)).f1) != (wrap64 (x4_1 - 1))) = false := bne_eq_false_iff_eq.mpr c13
           clear c13
           obtain ⟨y106, hy106⟩ : ∃ y_ : List (S67), y_ = (x3_1.set ((ji10) : Int).toNat (⟨(rd_T67 x3_1 (ji10)).f0, x4_1⟩ : S67)) := ⟨_, rfl⟩
           replace H : (spec_l1Class.l0 k1 l0 y106 (wrap64 (x4_1 + 1))) = some r := by first | (rw [hy106]; with_reducible exact H) | (have H2_ := (Option.bind_some _ _).symm.trans H; rw [hy106]; with_reducible exact H2_) | (have H2_ := (Option.bind_some _ _).symm.trans H; with_reducible exact H2_) | with_reducible exact H | (rw [hy106]; exact H) | exact H
           have Ny106 := q_ hy106; clear hy106
           have H' := q_ H
           clear H
           have p104 : 0 ≤ (x4_1 : Int) := of_decide_eq_true as_
           have q104 : x4_1 < (l0.length : Int) := of_decide_eq_true as_
           obtain ⟨ad104, e104, hx104_0⟩ := Kd.at_bool HR0.o x4_1 p104 q104
           (try rw [← Nbq7.o] at hx104_0)
           cases e104
           replace hx104_0 := mv_ HB.o hx104_0; replace p104 := eq_true p104; replace q104 := eq_true q104; obtain ⟨Ao15, co15, eo15⟩ := Kd.R_slice HO_3.o; subst eo15
           have p105 : 0 ≤ ((ji10) : Int) := of_decide_eq_true as_
           have q105 : (ji10) < (x3_1.length : Int) := of_decide_eq_true as_
           obtain ⟨ad105, e105, hx105_0, hx105_1⟩ := at_T67 (Kd.R_reads' HO_3.o).2.2 (ji10) p105 q105
           cases e105
           replace p105 := eq_true p105; replace q105 := eq_true q105
           have p14 : 0 ≤ ((ji10) : Int) := of_decide_eq_true as_
           have q14 : ((ji10) : Int) < ((x3_1.length : Int) : Int) := of_decide_eq_true as_
           obtain ⟨go14, co14, eo14, gb14, gl14, cl14, HG14⟩ := Kd.R_form HO_3.o (by omega)
           (first | cases eo14 | (injection eo14 with ea_ en_ ec_; (first | subst ea_ | (injection ea_ with ea_; subst ea_)); subst ec_; clear en_))
           have GB14 := q_ gb14; have GG14 := q_ HG14; clear gb14 gl14 HG14
           (first | simp only [add_plain] at hx105_0 | skip)
           (first | simp only [add_plain] at hx105_1 | skip)
           obtain ⟨ce14, hcl14, hM14, hcc14, hfr14⟩ := Kd.R_elem HO_3.o z67 ((ji10) : Int) p14 q14
           obtain rfl := k67_openM hM14
           have hx14_0 : wr.cell? ⟨go14, ((ji10) : Int).toNat * 2, none⟩ = some (.int .i64 ((rd_T67 x3_1 (ji10)).f0)) := hcc14 0 _ rfl
           have hx14_1 : wr.cell? ⟨go14, ((ji10) : Int).toNat * 2 + 1, none⟩ = some (.int .i64 ((rd_T67 x3_1 (ji10)).f1)) := hcc14 1 _ rfl
           have hf14_0 : wr.frozen? ⟨go14, ((ji10) : Int).toNat * 2, none⟩ = false := hfr14 0
           have hf14_1 : wr.frozen? ⟨go14, ((ji10) : Int).toNat * 2 + 1, none⟩ = false := hfr14 1
           clear hcl14 hcc14 hfr14 hM14; replace p14 := eq_true p14; replace q14 := eq_true q14
           have HX16 := q_ (show Kd.R k67 67 wr w.heap.size (fun _ => True) (.slice (some ⟨go14, 0, none⟩) x3_1.length co15) x3_1 from (ra_ HO_3.o))
           obtain ⟨ce16, hcl16, hM16, hcc16, hfr16⟩ := Kd.R_elem HX16.o z67 ((ji10) : Int) (of_decide_eq_true as_) (by have h_ : ((ji10) : Int) < ((x3_1.length : Int) : Int) := of_decide_eq_true as_; first | exact h_ | (have e_ := (Kd.R_reads' HO_3.o).1; omega) | simpa using h_)
           obtain rfl := k67_openM hM16
           have HP16 := Kd.R_seg HX16.o ((ji10) : Int) (of_decide_eq_true as_) (by have h_ : ((ji10) : Int) < ((x3_1.length : Int) : Int) := of_decide_eq_true as_; first | exact h_ | (have e_ := (Kd.R_reads' HO_3.o).1; omega) | simpa using h_) (seg := [.int .i64 x4_1]) (j := 1) hcl16 hcc16 (show 2 ≤ 2 from by decide) (x' := (⟨(rd_T67 x3_1 (ji10)).f0, x4_1⟩ : S67)) (k67_mkM _ _ _ (⟨(rd_T67 x3_1 (ji10)).f0, x4_1⟩ : S67) ) (fun _ hk => hk)
           have hx16_1 := hcc16 1 _ rfl
           (try simp only [show (k67).sz = 2 from rfl, Nat.mul_one, Nat.add_zero] at hx16_1)
           have hf16_1 := hfr16 1
           (try simp only [show (k67).sz = 2 from rfl, Nat.mul_one, Nat.add_zero] at hf16_1)
           clear hcl16 hcc16 hfr16 hM16
           go_wp2_with (first | ((with_reducible refine gate_store (t := 2) (p := 36) rfl ?_); refine store_event (t := 2) (p := 36) (v := ?vo_w17) (w1 := (wr.setCell ⟨go14, ((ji10) : Int).toNat * 2 + 1, none⟩ (.int .i64 x4_1))) ?hg ?ho ?hn ?hr ?_; (case ho => rfl); (case hg => rfl); (case hn => rfl); (case hr => first | (go_simp; done) | (go_simp; rfl)); intro w17 hw; have hg : wr.grownBy w17 (some go14) := (by rw [hw]; exact HP16.2); have hp_ : Kd.R k67 67 w17 w.heap.size (fun _ => True) (.slice (some ⟨go14, 0, none⟩) x3_1.length co15) y106 := (by rw [hw, Ny106.o]; exact HP16.1); clear HP16; replace HO_3 := q_ (hp_); replace HB := q_ ((by rw [hw]; exact below_set (HB.o) GB14.out : Below w.heap.size w w17)); clear hg hw hp_))
           go_roundg k1
           case measure => have := HK1.o; omega
           case rel => exact ⟨(y106), (wrap64 (x4_1 + 1)), rs_, H', ⟨by have := HK1.o; omega⟩, ⟨ra_ HO_3.o⟩, ⟨be_ HB.o⟩⟩
          ·rw [if_neg c13] at H
           have c13b0 : (((rd_T67 x3_1 (ji10)).f1) == (wrap64 (x4_1 - 1))) = false := beq_eq_false_iff_ne.mpr c13
           have c13b1 : (((rd_T67 x3_1 (ji10)).f1) != (wrap64 (x4_1 - 1))) = true := bne_iff_ne.mpr c13
           by_cases c18 : x3_1.length < 8796093022208
           ·rw [if_pos c18] at H; have LMc18 := q_ c18; clear c18
            obtain ⟨y107, hy107⟩ : ∃ y_ : List (S67), y_ = (x3_1 ++ [(⟨x4_1, x4_1⟩ : S67)]) := ⟨_, rfl⟩
            replace H : (spec_l1Class.l0 k1 l0 y107 (wrap64 (x4_1 + 1))) = some r := by first | (rw [hy107]; with_reducible exact H) | (have H2_ := (Option.bind_some _ _).symm.trans H; rw [hy107]; with_reducible exact H2_) | (have H2_ := (Option.bind_some _ _).symm.trans H; with_reducible exact H2_) | with_reducible exact H | (rw [hy107]; exact H) | exact H
            have Ny107 := q_ hy107; clear hy107
            have H' := q_ H
            clear H
            have p104 : 0 ≤ (x4_1 : Int) := of_decide_eq_true as_
            have q104 : x4_1 < (l0.length : Int) := of_decide_eq_true as_
            obtain ⟨ad104, e104, hx104_0⟩ := Kd.at_bool HR0.o x4_1 p104 q104
            (try rw [← Nbq7.o] at hx104_0)
            cases e104
            replace hx104_0 := mv_ HB.o hx104_0; replace p104 := eq_true p104; replace q104 := eq_true q104; obtain ⟨Ao19, co19, eo19⟩ := Kd.R_slice HO_3.o; subst eo19
            have p105 : 0 ≤ ((ji10) : Int) := of_decide_eq_true as_
            have q105 : (ji10) < (x3_1.length : Int) := of_decide_eq_true as_
            obtain ⟨ad105, e105, hx105_0, hx105_1⟩ := at_T67 (Kd.R_reads' HO_3.o).2.2 (ji10) p105 q105
            cases e105
            replace p105 := eq_true p105; replace q105 := eq_true q105
            go_wp2_with (first | ((with_reducible refine gate_builtin (b := .append) (xs := #[.tmp 37, .tmp 41]) rfl ?_); (try (refine gate_guard (by rfl) ?_; dsimp only)); at_builtin; refine Kd.R_append k67 (w0 := w) w.heap.size rfl (.tmp 37) (.tmp 41) 26 67 (.agg #[(.int .i64 0), (.int .i64 0)]) 16 rfl Tryz.underlying26 info67 rfl (by decide) (by omega) (.slice (some ad105) x3_1.length co19) x3_1 (⟨x4_1, x4_1⟩ : S67) [.int .i64 x4_1, .int .i64 x4_1] (fun _ => True) (fun _ => False) rfl rfl ?aP (fun _ hk => hk.elim) ?aF ?aO ?aB ?aS ?aL ?_; (case aP => exact k67_mkM _ _ _ (⟨x4_1, x4_1⟩ : S67)); (case aB => exact (be_ HB.o)); (case aF => exact (fun _ _ => trivial)); (case aO => exact (ra_ HO_3.o)); (case aS => exact (below_size (be_ HB.o))); (case aL => have := LMc18.o; omega); intro v108 w20 ho hb hg hat; rw [← Ny107.o] at ho; have HO109 := q_ (ho); replace HB := q_ (hb); clear HO_3; clear ho hb hg hat))
            go_roundg k1
            case measure => have := HK1.o; omega
            case rel => exact ⟨(y107), (wrap64 (x4_1 + 1)), rs_, H', ⟨by have := HK1.o; omega⟩, ⟨ra_ HO109.o⟩, ⟨be_ HB.o⟩⟩
           ·rw [if_neg c18] at H
            exact absurd H (by simp)
         ·rw [if_neg c12] at H
          exact absurd H (by simp)
        ·rw [if_neg c11] at H
         exact absurd H (by simp)
       ·rw [if_neg c9] at H
        have c9b0 : decide (0 < (x3_1.length : Int)) = false := df_ c9
        have c9b1 : decide (0 < x3_1.length) = false := decide_eq_false (by omega)
        clear c9
        by_cases c21 : x3_1.length < 8796093022208
        ·rw [if_pos c21] at H; have LMc21 := q_ c21; clear c21
         obtain ⟨y110, hy110⟩ : ∃ y_ : List (S67), y_ = (x3_1 ++ [(⟨x4_1, x4_1⟩ : S67)]) := ⟨_, rfl⟩
         replace H : (spec_l1Class.l0 k1 l0 y110 (wrap64 (x4_1 + 1))) = some r := by first | (rw [hy110]; with_reducible exact H) | (have H2_ := (Option.bind_some _ _).symm.trans H; rw [hy110]; with_reducible exact H2_) | (have H2_ := (Option.bind_some _ _).symm.trans H; with_reducible exact H2_) | with_reducible exact H | (rw [hy110]; exact H) | exact H
         have Ny110 := q_ hy110; clear hy110
         have H' := q_ H
         clear H
         have p104 : 0 ≤ (x4_1 : Int) := of_decide_eq_true as_
         have q104 : x4_1 < (l0.length : Int) := of_decide_eq_true as_
         obtain ⟨ad104, e104, hx104_0⟩ := Kd.at_bool HR0.o x4_1 p104 q104
         (try rw [← Nbq7.o] at hx104_0)
         cases e104
         replace hx104_0 := mv_ HB.o hx104_0; replace p104 := eq_true p104; replace q104 := eq_true q104; obtain ⟨Ao22, co22, eo22⟩ := Kd.R_slice HO_3.o; subst eo22
         go_wp2_with (first | ((with_reducible refine gate_builtin (b := .append) (xs := #[.tmp 37, .tmp 41]) rfl ?_); (try (refine gate_guard (by rfl) ?_; dsimp only)); at_builtin; refine Kd.R_append k67 (w0 := w) w.heap.size rfl (.tmp 37) (.tmp 41) 26 67 (.agg #[(.int .i64 0), (.int .i64 0)]) 16 rfl Tryz.underlying26 info67 rfl (by decide) (by omega) (.slice Ao22 x3_1.length co22) x3_1 (⟨x4_1, x4_1⟩ : S67) [.int .i64 x4_1, .int .i64 x4_1] (fun _ => True) (fun _ => False) rfl rfl ?aP (fun _ hk => hk.elim) ?aF ?aO ?aB ?aS ?aL ?_; (case aP => exact k67_mkM _ _ _ (⟨x4_1, x4_1⟩ : S67)); (case aB => exact (be_ HB.o)); (case aF => exact (fun _ _ => trivial)); (case aO => exact (ra_ HO_3.o)); (case aS => exact (below_size (be_ HB.o))); (case aL => have := LMc21.o; omega); intro v111 w23 ho hb hg hat; rw [← Ny110.o] at ho; have HO112 := q_ (ho); replace HB := q_ (hb); clear HO_3; clear ho hb hg hat))
         go_roundg k1
         case measure => have := HK1.o; omega
         case rel => exact ⟨(y110), (wrap64 (x4_1 + 1)), rs_, H', ⟨by have := HK1.o; omega⟩, ⟨ra_ HO112.o⟩, ⟨be_ HB.o⟩⟩
        ·rw [if_neg c21] at H
         exact absurd H (by simp)
      ·replace c8 := Bool.eq_false_iff.mpr c8; subst c8; rw [if_neg nft_] at H
       have H' := q_ H
       clear H
       have p104 : 0 ≤ (x4_1 : Int) := of_decide_eq_true as_
       have q104 : x4_1 < (l0.length : Int) := of_decide_eq_true as_
       obtain ⟨ad104, e104, hx104_0⟩ := Kd.at_bool HR0.o x4_1 p104 q104
       (try rw [← Nbq7.o] at hx104_0)
       cases e104
       replace hx104_0 := mv_ HB.o hx104_0; replace p104 := eq_true p104; replace q104 := eq_true q104
       go_wp2
       go_roundg k1
       case measure => have := HK1.o; omega
       case rel => exact ⟨(x3_1), (wrap64 (x4_1 + 1)), rs_, H', ⟨by have := HK1.o; omega⟩, ⟨ra_ HO_3.o⟩, ⟨be_ HB.o⟩⟩
     ·rw [if_neg c6] at H
      exact absurd H (by simp)
    ·rw [if_neg c5] at H
     exact absurd H (by simp)
   ·rw [if_neg c4] at H; have c4b0 := df_ c4; clear c4; obtain rfl := Option.some.inj H
    go_wp2
    go_ret
    exact ⟨_, rt_, ra_ HO_3.o, be_ HB.o⟩
end Go.Proofs.YtijmhelacmjggaaGreat.P
