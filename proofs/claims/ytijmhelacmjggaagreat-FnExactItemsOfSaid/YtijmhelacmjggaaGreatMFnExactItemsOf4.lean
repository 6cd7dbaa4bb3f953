/- The law FnExactItemsOf holds for every call: part 5 of 7 of the proof (walks of functions, and what they answer). Conditions: none beyond what the given row says. -/
import Derived.Test.YtijmhelacmjggaaGreatMFnExactItemsOf0
import Derived.Test.YtijmhelacmjggaaGreatMFnExactItemsOf3
import Derived.Test.YtijmhelacmjggaaGreatMFnExactItemsOf2
import Derived.Test.YtijmhelacmjggaaGreatMFnExactItemsOf1
import Derived.Shelf.Abstract
import Derived.Lib.Hide
set_option maxHeartbeats 16000000
set_option maxRecDepth 100000
namespace Go.Proofs.YtijmhelacmjggaaGreat.P
open Go.RowKit Go.Shelf Go.Proofs.YtijmhelacmjggaaGreatW.PrintWords Go.Proofs.YtijmhelacmjggaaGreatW.PrintLast Go.Proofs.YtijmhelacmjggaaGreatW.PrintMore Go.Proofs.YtijmhelacmjggaaGreatEv
set_option linter.unusedVariables false
set_option linter.unusedSimpArgs false
theorem endsAt_hand (A0 : Option Addr) (c0 : Nat) (l : List S121) (w : World) (hn : l.length ≤ 1048576) (hkl : ∀ x ∈ l, x.f2.length ≤ 9223372036854775807) (hr : Kd.C k121 w A0 l.length l) (hc : l.length ≤ c0) :
    Calls Tryz.prog 108 #[.agg #[.slice A0 l.length c0], .string ⟨#[]⟩, .int .i64 0] w fun e w' => ∃ v, e = .returned v ∧ Kd.R (Kd.int .i64) 2 w' w.heap.size (fun _ => True) v (if rxB l && nullE l (l.length - 1) then [0] else []) ∧ Below w.heap.size w w' := by
  obtain ⟨kx, hx⟩ := ev_get (spec_RxOk_ev l hn hkl); have CN := q_ hr; have CL := q_ hc; have HX := q_ hx
  obtain ⟨gx, hgx⟩ : ∃ gx, w.heap.size = gx := ⟨_, rfl⟩
  have BX : J0 ((w.alloc (.cells #[.slice A0 l.length c0] 58)).heap[gx]? = some (.cells #[.slice A0 l.length c0] 58 (0, 0))) := ⟨by rw [← hgx]; exact blk_new w _⟩
  have HB := q_ (below_alloc (Below.refl w.heap.size w) (.cells #[.slice A0 l.length c0] 58))
  obtain ⟨tx, htx⟩ : ∃ tx : ByteArray, (⟨#[]⟩ : ByteArray) = tx := ⟨_, rfl⟩
  have ht : tx.size = 0 := by rw [← htx]; rfl
  rw [htx]
  clear hr hc hx htx
  cases hrx : rxB l with
  | false =>
    rw [hrx] at HX
    clear hrx
    go_enter Tryz.func108, Tryz.ntmps108
    go_wp2_with (first | ((with_reducible refine gate_dst (N := 11) rfl ?_); refine Kd.R_lit (Kd.int .i64) _ 2 ?hg (N := 11) ?hd (xs := ([] : List Int)) (inner := []) (ok := fun _ => True) (okp := fun _ => True) ?hr ?hp (fun _ hk => hk) trivial (Below.refl _ _) (Nat.le_refl _) (by simp) ?_; (case hd => rfl); (case hg => rfl); (case hr => first | (go_simp; done) | (go_simp; rfl)); (case hp => exact (Reps.none _ _)); intro v1 w1 ho hb hg_ hnew_; clear hg_ hnew_; have nBX := q_ (blk_below BX.o hb); have HO := q_ (Kd.R_lower ho (below_size HB.o)); have nHB := q_ (below_step HB.o hb); clear BX HB ho hb; have BX := nBX; have HB := nHB; clear nBX nHB; have hx0 : w1.cell? ⟨gx, 0, none⟩ = some (.slice A0 l.length c0) := (blk_cell BX.o 0).trans rfl) | (go_at_call 53; refine (spec_RxOk.calls kx A0 c0 l false _ (Kd.C_below CN.o (by repeat (first | (with_reducible exact HB.o) | apply below_alloc | apply pw_below_drewN | apply below_drew1))) CL.o HX.o).mono ?_; rintro e w3 ⟨rfl, hb3⟩; have nBX := q_ (blk_below (by (with_reducible repeat (first | refine blk_drewN ?_ _ | refine blk_drew ?_)); exact BX.o) hb3); have nHB := q_ (below_step (by repeat (first | (with_reducible exact HB.o) | apply below_alloc | apply pw_below_drewN | apply below_drew1)) hb3); have nO := q_ (Kd.R_below (ra_ HO.o) hb3); clear BX HB HO hb3; have BX := nBX; have HB := nHB; have HO := nO; clear nBX nHB nO; have hx0 : w3.cell? ⟨gx, 0, none⟩ = some (.slice A0 l.length c0) := (blk_cell BX.o 0).trans rfl) | (go_at_call 51; refine (spec_l1In.calls 0 0 0 true _ rfl).mono ?_; rintro e w4 ⟨rfl, ⟨nd, rfl⟩⟩))
    go_ret
    subst hgx
    exact ⟨_, rfl, by simpa using HO.o, by repeat (first | (with_reducible exact HB.o) | apply below_alloc | apply pw_below_drewN | apply below_drew1)⟩
  | true =>
    rw [hrx] at HX
    obtain ⟨hl1, hl3, hok⟩ := rxB_parts hrx; clear hrx
    obtain ⟨res, hres⟩ : ∃ res : List Int, (if (true && nullE l (l.length - 1)) = true then [0] else []) = res := ⟨_, rfl⟩
    rw [hres]
    have HRES := q_ hres; clear hres
    go_enter Tryz.func108, Tryz.ntmps108
    go_wp2_with (first | ((with_reducible refine gate_dst (N := 11) rfl ?_); refine Kd.R_lit (Kd.int .i64) _ 2 ?hg (N := 11) ?hd (xs := ([] : List Int)) (inner := []) (ok := fun _ => True) (okp := fun _ => True) ?hr ?hp (fun _ hk => hk) trivial (Below.refl _ _) (Nat.le_refl _) (by simp) ?_; (case hd => rfl); (case hg => rfl); (case hr => first | (go_simp; done) | (go_simp; rfl)); (case hp => exact (Reps.none _ _)); intro v1 w1 ho hb hg_ hnew_; clear hg_ hnew_; have nBX := q_ (blk_below BX.o hb); have HO := q_ (Kd.R_lower ho (below_size HB.o)); have nHB := q_ (below_step HB.o hb); clear BX HB ho hb; have BX := nBX; have HB := nHB; clear nBX nHB; have hx0 : w1.cell? ⟨gx, 0, none⟩ = some (.slice A0 l.length c0) := (blk_cell BX.o 0).trans rfl) | (go_at_call 53; refine (spec_RxOk.calls kx A0 c0 l true _ (Kd.C_below CN.o (by repeat (first | (with_reducible exact HB.o) | apply below_alloc | apply pw_below_drewN | apply below_drew1))) CL.o HX.o).mono ?_; rintro e w3 ⟨rfl, hb3⟩; have nBX := q_ (blk_below (by (with_reducible repeat (first | refine blk_drewN ?_ _ | refine blk_drew ?_)); exact BX.o) hb3); have nHB := q_ (below_step (by repeat (first | (with_reducible exact HB.o) | apply below_alloc | apply pw_below_drewN | apply below_drew1)) hb3); have nO := q_ (Kd.R_below (ra_ HO.o) hb3); clear BX HB HO hb3; have BX := nBX; have HB := nHB; have HO := nO; clear nBX nHB nO; have hx0 : w3.cell? ⟨gx, 0, none⟩ = some (.slice A0 l.length c0) := (blk_cell BX.o 0).trans rfl) | (go_at_call 51; refine (spec_l1In.calls 0 0 0 true _ rfl).mono ?_; rintro e w4 ⟨rfl, ⟨nd, rfl⟩⟩))
    clear hx0; replace BX := q_ (blk_drewN BX.o nd); replace HB := q_ (pw_below_drewN HB.o nd); replace HO := q_ (Kd.R_drewN HO.o nd)
    generalize hW : w3.drewN nd = W at *
    clear hW; have BX1 := q_ (blk_drew BX.o); have HB1 := q_ (below_drew1 HB.o); have HO1 := q_ (Kd.R_drew HO.o)
    have hmul : wrap64 ((l.length : Int) * wrap64 1) = (l.length : Int) := by rw [wrap_id (x := 1) (by omega) (by omega), Int.mul_one]; exact wrap_id (by omega) (by omega)
    have hwl : IntKind.i64.wrap (l.length : Int) = (l.length : Int) := by rw [i64_w]; exact wrap_id (by omega) (by omega)
    refine start_ (n := 13) (S := fun w' => w'.cell? ⟨gx, 0, none⟩ = some (.slice A0 l.length c0)) (ds := []) (bb 13 0) (by kernel_rfl) rfl rfl (by exact (blk_cell BX.o 0).trans rfl) (fun hHeld => ?_)
    generalize hW1 : W.drew = W1 at BX1 HB1 HO1 hHeld ⊢
    refine pk_ 1 29 2 ?_; refine pk_ 2 30 6 ?_; refine pk_ 5 33 38 ?_; refine pk_ 6 34 102 ?_; refine pk_ 7 35 230 ?_; refine tk_ 0 28 231 hHeld ?_; refine tk_ 3 31 239 hHeld ?_; refine pk_ 4 32 255 ?_; refine pk_ 8 36 511 ?_
    refine one_ (i := 9) (N := (some 37)) (bb 13 1023) rfl rfl (by kernel_rfl) (by decide) (fun K hK => ?_)
    rw [hmul]
    refine Kd.R_make_step (Kd.scalar (fun (_ : Unit) => Value.slice none 0 0) (fun _ => rfl)) (w0 := W1) W1.heap.size 114 (by rfl) (N := 37) rfl 158 _ _ rfl (l.length : Int) rfl rfl Tryz.underlying158 (.slice none 0 0) 24 (by kernel_rfl) rfl (by decide) (by omega) () (ok := fun _ => True) (okp := fun _ => True) rfl (fun _ hk => hk) trivial (by omega) (by simp; omega) (Below.refl _ _) (Nat.le_refl _) ?_
    intro v2 w2 ho hb hgr hat
    rw [Int.toNat_natCast] at ho
    obtain ⟨gg, cg, rfl, hgg0, _, cs, hC⟩ := Kd.R_form ho (by simp; omega)
    have hlen0 : (List.replicate l.length ()).length = l.length := by simp
    have hrow : ∀ k, k < l.length → cs[k]? = some (.slice none 0 0) := fun k hk => by have h := (Kd.R_cell () ho (k : Int) (by omega) (by rw [hlen0]; omega)).1; rw [Int.toNat_natCast, blk_cell hC k] at h; exact h
    rw [hlen0] at ho ⊢
    have hcg := (Kd.R_reads' ho).2.1; have HO2 := q_ (Kd.R_below HO1.o hb)
    have HGG2 : J0 (w.heap.size ≤ gg) := ⟨Nat.le_trans HB1.o.size hgg0⟩
    have HB2 := q_ (below_step HB1.o hb); have BX2 := q_ (blk_below BX1.o hb); have HC := q_ hC; have HRW := q_ hrow; have HCG := q_ hcg; have HGG := q_ hgg0
    refine hK.out _ _ (by exact (blk_cell BX2.o 0).trans rfl) (fun hHeld => ?_)
    clear hK K; refine no_ (some 37) ?_; refine pk_ 10 38 2047 ?_
    refine one_ (i := 11) (N := (some 39)) (bb 13 4095) rfl rfl (by kernel_rfl) (by decide) (fun K hK => ?_)
    refine value_ (w1 := ?_) (v := ?_) (by rfl) rfl ?_ ?_
    rotate_left 2
    · go_simp
      constructor
      · rfl
      · rfl
    refine hK.out _ _ (by exact (World.cell?_alloc_lt _ _ _ (World.block_lt_of_cell? _ _ hHeld)).trans hHeld) (fun hHeld => ?_)
    clear hK K; refine no_ (some 39) ?_; refine pk_ 12 8 8191 ?_
    refine done_ (by kernel_rfl) ?_
    have hgm0 : w.heap.size ≤ w2.heap.size := HB2.o.size
    have HM : J0 (Memo w w2.heap.size gg A0 c0 l tx (nullE l) (w2.alloc (.cells #[.slice A0 l.length c0, .string tx, .slice (some ⟨gg, 0, none⟩) l.length cg] 160))) := ⟨⟨cg, cs, blk_new w2 _, HCG.o, hgm0, HGG2.o, blk_alloc HC.o _, fun k hk => ⟨_, HRW.o k hk, .inl rfl⟩⟩⟩
    have HB3 := q_ (below_alloc HB2.o (.cells #[.slice A0 l.length c0, .string tx, .slice (some ⟨gg, 0, none⟩) l.length cg] 160)); have HO3 := q_ (Kd.R_alloc HO2.o (.cells #[.slice A0 l.length c0, .string tx, .slice (some ⟨gg, 0, none⟩) l.length cg] 160)); have BX3 := q_ (blk_alloc BX2.o (.cells #[.slice A0 l.length c0, .string tx, .slice (some ⟨gg, 0, none⟩) l.length cg] 160)); have HC3 := q_ (blk_alloc HC.o (.cells #[.slice A0 l.length c0, .string tx, .slice (some ⟨gg, 0, none⟩) l.length cg] 160)); clear hC hrow hcg hgg0 ho hb hgr hat hHeld HB1 BX1 HO1 HB2 BX2 HO2 HC HRW HCG BX HB HO
    obtain ⟨gm, hgm⟩ : ∃ gm, w2.heap.size = gm := ⟨_, rfl⟩
    generalize hW3 : w2.alloc (.cells #[.slice A0 l.length c0, .string tx, .slice (some ⟨gg, 0, none⟩) l.length cg] 160) = W3 at *
    clear hW3
    simp only [hgm] at HM ⊢
    have hcalls := (ends_all (gm := gm) (gg := gg) (cn := c0) ht (by omega) CN.o hok l.length (l.length - 1) (by omega) (by omega)) W3 HM.o HB3.o
    rw [show ((l.length - 1 : Nat) : Int) = (l.length : Int) - 1 by omega] at hcalls
    have HCS := q_ hcalls
    have hx0 : W3.cell? ⟨gx, 0, none⟩ = some (.slice A0 l.length c0) := (blk_cell BX3.o 0).trans rfl
    have hws : IntKind.i64.wrap ((l.length : Int) - 1) = (l.length : Int) - 1 := by rw [i64_w]; exact wrap_id (by omega) (by omega)
    clear hcalls
    generalize nullE l (l.length - 1) = b at *
    go_wp2_with (go_at_call 113; refine HCS.o.mono ?_; rintro e w5 ⟨v5, rfl, hR5, hM5, hK5, hB5⟩; obtain ⟨g5, c5, rfl, hc5⟩ := Row.form hR5; have HR5 := q_ hR5; have HB5 := q_ hB5; have HO5 := q_ (Kd.R_mono (Kd.R_step (Kd.R_types HO3.o HC3.o (by decide)) (fun k ho hlt => hK5.2 k hlt ho.2)) (ok' := fun _ => True) (fun _ _ => trivial)); clear hR5 hM5 hK5 hB5)
    go_loopg [7, 10] 2 (fun gk_ v7 v10 wr => ∃ (kk : Nat), v10 = .int .i64 (kk : Int) ∧ kk ≤ 1 ∧ 2 - kk ≤ gk_ ∧ J0 (Kd.R (Kd.int .i64) 2 wr w.heap.size (fun _ => True) v7 (if kk = 0 then [] else if b then [0] else [])) ∧ J0 (kk = 0 → Row w wr gg (.slice (some ⟨g5, 0, none⟩) 1 c5) b) ∧ J0 (Below w.heap.size w wr))
    case atStart => exact ⟨0, rfl, by omega, by omega, ⟨by simpa using HO5.o⟩, ⟨fun _ => HR5.o⟩, HB5⟩
    case round =>
      clear HO5 HR5 HB5; obtain ⟨kk, rfl, hkk, hgk, HO, HR, HB⟩ := hrel
      obtain rfl | rfl : kk = 0 ∨ kk = 1 := by omega
      · have hx5 := Row.cell (HR.o rfl)
        replace HO : J0 (Kd.R (Kd.int .i64) 2 wr w.heap.size (fun _ => True) u7 []) := ⟨by simpa using HO.o⟩
        obtain ⟨A7, c7, rfl⟩ := Kd.R_slice HO.o
        rw [show ([] : List Int).length = 0 from rfl] at HO ⊢
        clear HR
        cases b with
        | false =>
          go_wp2_with fail
          go_roundg 1
          case measure => omega
          case rel => exact ⟨1, rfl, by omega, by omega, ⟨by simpa using HO.o⟩, ⟨fun h => absurd h (by omega)⟩, HB⟩
        | true =>
          go_wp2_with ((with_reducible refine gate_builtin (b := .append) (xs := #[.tmp 57, .tmp 59]) rfl ?_); at_builtin; refine Kd.R_append (Kd.int .i64) (w0 := w) w.heap.size rfl (.tmp 57) (.tmp 59) 119 2 (.int .i64 0) 8 rfl Tryz.underlying119 (by kernel_rfl) rfl (by decide) (by omega) (.slice A7 0 c7) ([] : List Int) 0 [.int .i64 0] (fun _ => True) (fun _ => False) rfl rfl ?aP (fun _ hk => hk.elim) (fun _ _ => trivial) HO.o HB.o (below_size HB.o) (by simp) ?_; (case aP => exact rfl); intro v8 w8 ho hb hgr hat; have HO8 := q_ ho; have HB8 := q_ hb; clear ho hb hgr hat)
          go_roundg 1
          case measure => omega
          case rel => exact ⟨1, rfl, by omega, by omega, ⟨by simpa using HO8.o⟩, ⟨fun h => absurd h (by omega)⟩, HB8⟩
      · go_wp2_with fail
        go_ret
        first | exact ⟨_, rfl, by rw [← HRES.o]; simpa using HO.o, HB.o⟩ | (subst hgx; exact ⟨_, rfl, by rw [← HRES.o]; simpa using HO.o, HB.o⟩)
end Go.Proofs.YtijmhelacmjggaaGreat.P
namespace Go.Proofs.YtijmhelacmjggaaGreat.P
open Go.RowKit Go.Proofs.YtijmhelacmjggaaGreatW.PrintWords Go.Proofs.YtijmhelacmjggaaGreatW.PrintLast Go.Proofs.YtijmhelacmjggaaGreatW.PrintMore
attribute [local go_sem] max2_int min2_int max_two min_two max_three min_three max_four min_four
set_option linter.unusedVariables false
set_option linter.unusedSimpArgs false
/-! ### spec_l1Has: function 107 -/
def spec_l1Has.l0 : Nat → List Int → Int → Int → Option (Bool)
 | 0, _, _, _ => none
 | k + 1, x0, x1, x5 => if x5 < (x0.length : Int) then (if 0 ≤ x5 then (if (rd x0 x5) = x1 then (some true) else (spec_l1Has.l0 k x0 x1 (wrap64 (x5 + 1)))) else (none)) else (some false)
def spec_l1Has.f (k : Nat) (l0 : List Int) (a1 : Int) : Option (Bool) := spec_l1Has.l0 k l0 a1 0
theorem spec_l1Has.calls (k : Nat) (A0 : Option Addr) (c0 : Nat) (l0 : List Int) (a1 : Int) (r : Bool) (w : World) (hr0 : Kd.C (Kd.int .i64) w A0 l0.length l0) (hc0 : l0.length ≤ c0) (h : spec_l1Has.f k l0 a1 = some r) :
  Calls Tryz.prog 107 #[.slice A0 l0.length c0, .int .i64 a1] w fun e w' => e = .returned (.bool r) ∧ Drawn0 w w' := by
 have HR0 := q_ hr0; have HC0 := q_ hc0; clear hr0 hc0
 have H : (spec_l1Has.l0 k l0 a1 0) = some r := h
 clear h
 have H' := q_ H
 clear H
 go_enter Tryz.func107, Tryz.ntmps107
 go_wp2
 go_loopg [5] k (fun kq v5 w' => ∃ (x5_1 : Int), v5 = .int .i64 x5_1 ∧ J0 (spec_l1Has.l0 kq l0 a1 x5_1 = some r) ∧ J0 (kq ≤ k) ∧ Drawn0 w w')
 case atStart => exact ⟨(0), rs_, H', ⟨Nat.le_refl _⟩, by repeat (first | exact Drawn0.refl _ | apply Drawn0.step)⟩
 case round =>
  clear H'
  obtain ⟨x5_1, rfl, HA, HK1, ⟨m1, rfl⟩⟩ := hrel
  cases gk with
  | zero => exact absurd HA.o (by simp [spec_l1Has.l0])
  | succ k1 =>
   have H := HA.o; clear HA
   simp only [spec_l1Has.l0] at H
   by_cases c3 : x5_1 < (l0.length : Int)
   ·rw [if_pos c3] at H; have c3b0 := dt_ c3; clear c3
    by_cases c4 : 0 ≤ x5_1
    ·rw [if_pos c4] at H; have c4b0 := dt_ c4; clear c4
     by_cases c5 : (rd l0 x5_1) = a1
     ·rw [if_pos c5] at H
      have c5b0 : ((rd l0 x5_1) == a1) = true := beq_iff_eq.mpr c5
      have c5b1 : ((rd l0 x5_1) != a1) = false := bne_eq_false_iff_eq.mpr c5
      clear c5; obtain rfl := Option.some.inj H
      have p101 : 0 ≤ (x5_1 : Int) := of_decide_eq_true as_
      have q101 : x5_1 < (l0.length : Int) := of_decide_eq_true as_
      obtain ⟨ad101, e101, hx101_0⟩ := Kd.at_int HR0.o x5_1 p101 q101
      cases e101
      replace p101 := eq_true p101; replace q101 := eq_true q101
      go_wp2
      go_ret
      exact ⟨by first | rfl | (simp; done) | (simp [*]; done), by repeat (first | exact Drawn0.refl _ | apply Drawn0.step)⟩
     ·rw [if_neg c5] at H
      have c5b0 : ((rd l0 x5_1) == a1) = false := beq_eq_false_iff_ne.mpr c5
      have c5b1 : ((rd l0 x5_1) != a1) = true := bne_iff_ne.mpr c5
      have H' := q_ H
      clear H
      have p101 : 0 ≤ (x5_1 : Int) := of_decide_eq_true as_
      have q101 : x5_1 < (l0.length : Int) := of_decide_eq_true as_
      obtain ⟨ad101, e101, hx101_0⟩ := Kd.at_int HR0.o x5_1 p101 q101
      cases e101
      replace p101 := eq_true p101; replace q101 := eq_true q101
      go_wp2
      go_roundg k1
      case measure => have := HK1.o; omega
      case rel => exact ⟨(wrap64 (x5_1 + 1)), rs_, H', ⟨by have := HK1.o; omega⟩, by repeat (first | exact Drawn0.refl _ | apply Drawn0.step)⟩
    ·rw [if_neg c4] at H
     exact absurd H (by simp)
   ·rw [if_neg c3] at H; have c3b0 := df_ c3; clear c3; obtain rfl := Option.some.inj H
    go_wp2
    go_ret
    exact ⟨by first | rfl | (simp; done) | (simp [*]; done), by repeat (first | exact Drawn0.refl _ | apply Drawn0.step)⟩
end Go.Proofs.YtijmhelacmjggaaGreat.P
namespace Go.Proofs.YtijmhelacmjggaaGreat.P
open Go.RowKit Go.Shelf Go.Proofs.YtijmhelacmjggaaGreatW.PrintWords Go.Proofs.YtijmhelacmjggaaGreatW.PrintLast Go.Proofs.YtijmhelacmjggaaGreatW.PrintMore Go.Proofs.YtijmhelacmjggaaGreatEv
set_option linter.unusedVariables false
set_option linter.unusedSimpArgs false
theorem has_zero (b : Bool) : ∃ k, spec_l1Has.f k (if b then [0] else []) 0 = some b := by
  refine ⟨4, ?_⟩
  cases b <;> simp [spec_l1Has.f, spec_l1Has.l0, rd]
theorem nullable_hand (A0 : Option Addr) (c0 : Nat) (l : List S121) (w : World) (hn : l.length ≤ 1048576) (hr : Kd.C k121 w A0 l.length l) (hc : l.length ≤ c0) :
    Calls Tryz.prog 91 #[.agg #[.slice A0 l.length c0]] w fun e w' => e = .returned (.bool (rxB l && nullE l (l.length - 1))) ∧ Below w.heap.size w w' := by
  have hkl : ∀ x ∈ l, x.f2.length ≤ 9223372036854775807 := by
    intro x hx
    obtain ⟨i, hi, rfl⟩ := List.getElem_of_mem hx
    obtain ⟨_, _, _, _, _, _, _, _, _, _, _, _, _, _, h⟩ := at_T121 hr (i : Int) (by omega) (by omega)
    have h2 := h.2.1
    have e : rd_T121 l (i : Int) = l[i] := by simp [rd_T121, hi]
    rw [e] at h2
    exact h2
  have HB := q_ (below_alloc (Below.refl w.heap.size w) (.cells #[.slice A0 l.length c0] 58))
  have HC := q_ (endsAt_hand A0 c0 l (w.alloc (.cells #[.slice A0 l.length c0] 58)) hn hkl (Kd.C_below hr HB.o) hc)
  generalize (rxB l && nullE l (l.length - 1)) = b at *
  have HZ := has_zero b
  generalize (if b then [0] else [] : List Int) = lst at *
  obtain ⟨k_, hk_⟩ := HZ
  have HZ := q_ hk_
  clear hkl hr hc hk_
  go_enter Tryz.func91, Tryz.ntmps91
  go_wp2_with (first | (go_at_call 108; refine HC.o.mono ?_; rintro e w1 ⟨v1, rfl, ho, hb⟩; obtain ⟨A1, c1, rfl⟩ := Kd.R_slice ho; have HO := q_ ho; have HB1 := q_ (below_step HB.o hb); clear ho hb) | (go_at_call 107; refine (spec_l1Has.calls k_ A1 c1 lst 0 b _ (Kd.R_reads' HO.o).2.2 (Kd.R_reads' HO.o).2.1 HZ.o).mono ?_; rintro e w2 ⟨rfl, ⟨nd, rfl⟩⟩))
  go_ret
  exact ⟨rfl, by repeat (first | (with_reducible exact HB1.o) | apply pw_below_drewN | apply below_drew1)⟩
end Go.Proofs.YtijmhelacmjggaaGreat.P
namespace Go.Proofs.YtijmhelacmjggaaGreat.P
open Go.RowKit Go.Proofs.YtijmhelacmjggaaGreatW.PrintWords Go.Proofs.YtijmhelacmjggaaGreatW.PrintLast Go.Proofs.YtijmhelacmjggaaGreatW.PrintMore
attribute [local go_sem] max2_int min2_int max_two min_two max_three min_three max_four min_four
set_option linter.unusedVariables false
set_option linter.unusedSimpArgs false
/-! ### spec_Nullable: function 91 -/
def spec_Nullable.f (l0_0 : List (S121)) : Option (Bool) := if l0_0.length ≤ 1048576 then some (rxB l0_0 && nullE l0_0 (l0_0.length - 1)) else none
theorem spec_Nullable.calls (A0_0 : Option Addr) (c0_0 : Nat) (l0_0 : List (S121)) (r : Bool) (w : World) (hr0_0 : Kd.C k121 w A0_0 l0_0.length l0_0) (hc0_0 : l0_0.length ≤ c0_0) (h : spec_Nullable.f l0_0 = some r) :
    Calls Tryz.prog 91 #[.agg #[.slice A0_0 l0_0.length c0_0]] w fun e w' => e = .returned (.bool r) ∧ Below w.heap.size w w' := by
  unfold spec_Nullable.f at h
  by_cases hp : l0_0.length ≤ 1048576
  · rw [if_pos hp] at h
    obtain rfl := Option.some.inj h
    exact nullable_hand A0_0 c0_0 l0_0 w hp hr0_0 hc0_0
  · rw [if_neg hp] at h
    exact absurd h (by simp)
/-! ### spec_l5Rule: function 68 -/
def spec_l5Rule.j0 : Nat → Bool → List (S62) → ByteArray → List (S121) → Bool → Int → ByteArray → Option (Bool)
 | 0, _, _, _, _, _, _, _ => none
 | k + 1, x25, x102000, x103000, x103001, x103002, x103003, x103004 => if x25 = true then (some false) else (if x103003 = 1 then ((spec_ModeAt.f k x102000 x103004).bind fun t107 => (some (decide (t107 ≥ 0)))) else (if x103003 = 2 then ((spec_ModeAt.f k x102000 x103004).bind fun t108 => (some (decide (t108 ≥ 0)))) else (some (x103004.toList == ([] : List UInt8)))))
def spec_l5Rule.f (k : Nat) (l0_0 : List (S62)) (a1_0 : ByteArray) (l1_1 : List (S121)) (a1_2 : Bool) (a1_3 : Int) (a1_4 : ByteArray) : Option (Bool) := (spec_l1Name.f k a1_0).bind fun t103 => (if t103 = true then ((spec_RxOk.f k l1_1).bind fun t104 => (if t104 = true then ((spec_Nullable.f l1_1).bind fun t105 => (if t105 = true then (spec_l5Rule.j0 k true l0_0 a1_0 l1_1 a1_2 a1_3 a1_4) else ((spec_l1In.f a1_3 0 3).bind fun t106 => (spec_l5Rule.j0 k (!t106) l0_0 a1_0 l1_1 a1_2 a1_3 a1_4)))) else (spec_l5Rule.j0 k true l0_0 a1_0 l1_1 a1_2 a1_3 a1_4))) else (spec_l5Rule.j0 k true l0_0 a1_0 l1_1 a1_2 a1_3 a1_4))
theorem spec_l5Rule.calls (k : Nat) (A0_0 : Option Addr) (c0_0 : Nat) (l0_0 : List (S62)) (a1_0 : ByteArray) (A1_1 : Option Addr) (c1_1 : Nat) (l1_1 : List (S121)) (a1_2 : Bool) (a1_3 : Int) (a1_4 : ByteArray) (r : Bool) (w : World) (hr0_0 : Kd.C k62 w A0_0 l0_0.length l0_0) (hc0_0 : l0_0.length ≤ c0_0) (hr1_1 : Kd.C k121 w A1_1 l1_1.length l1_1) (hc1_1 : l1_1.length ≤ c1_1) (h : spec_l5Rule.f k l0_0 a1_0 l1_1 a1_2 a1_3 a1_4 = some r) :
  Calls Tryz.prog 68 #[.agg #[.slice A0_0 l0_0.length c0_0], .agg #[.string a1_0, .slice A1_1 l1_1.length c1_1, .bool a1_2, .int .i64 a1_3, .string a1_4]] w fun e w' => e = .returned (.bool r) ∧ Below w.heap.size w w' := by
 have hu31 := Tryz.underlying31; have hu64 := Tryz.underlying64; have hu58 := Tryz.underlying58; have HR0_0 := q_ hr0_0; have HC0_0 := q_ hc0_0; clear hr0_0 hc0_0; have HR1_1 := q_ hr1_1; have HC1_1 := q_ hc1_1; clear hr1_1 hc1_1; have HB := q_ (Below.refl w.heap.size w)
 have H : ((spec_l1Name.f k a1_0).bind fun t103 => (if t103 = true then ((spec_RxOk.f k l1_1).bind fun t104 => (if t104 = true then ((spec_Nullable.f l1_1).bind fun t105 => (if t105 = true then (spec_l5Rule.j0 k true l0_0 a1_0 l1_1 a1_2 a1_3 a1_4) else ((spec_l1In.f a1_3 0 3).bind fun t106 => (spec_l5Rule.j0 k (!t106) l0_0 a1_0 l1_1 a1_2 a1_3 a1_4)))) else (spec_l5Rule.j0 k true l0_0 a1_0 l1_1 a1_2 a1_3 a1_4))) else (spec_l5Rule.j0 k true l0_0 a1_0 l1_1 a1_2 a1_3 a1_4))) = some r := h
 clear h; have HC3 := q_ H; clear H
 go_enter Tryz.func68, Tryz.ntmps68
 go_upto_region 1 with (first | ((with_reducible refine gate_dst (N := 2) rfl ?_); refine bx_ 2 #[.slice A0_0 l0_0.length c0_0] 31 ?_; intro gb101 hg w4 hbox hb; have BK101 := q_ (hbox); have GE101 := ge_ hg HB; replace HB := sb_ HB hb; clear hb hbox hg) | ((with_reducible refine gate_dst (N := 3) rfl ?_); refine bx_ 3 #[.string a1_0, .slice A1_1 l1_1.length c1_1, .bool a1_2, .int .i64 a1_3, .string a1_4] 64 ?_; intro gb102 hg w5 hbox hb; have BK102 := q_ (hbox); have GE102 := ge1_ hg HB GE101; have NB101_102 := nl_ hg BK101; have NB102_101 := ng_ hg BK101; replace BK101 := lb_ BK101 hb; replace HB := sb1_ HB GE101 hb; clear hb hbox hg))
 (try simp only [Act.put, List.setIfInBounds_toArray, List.set_cons_zero, List.set_cons_succ])
 go_cut [25] (fun v25 wc => ∃ (kq : Nat) (x25_2 : Bool), v25 = .bool x25_2 ∧ J0 (spec_l5Rule.j0 kq x25_2 l0_0 a1_0 l1_1 a1_2 a1_3 a1_4 = some r) ∧ J0 (kq ≤ k) ∧ J0 (wc.heap[gb101]? = some (.cells #[(.slice A0_0 l0_0.length c0_0)] 31 (0, 0))) ∧ J0 (wc.heap[gb102]? = some (.cells #[.string a1_0, (.slice A1_1 l1_1.length c1_1), .bool a1_2, .int .i64 a1_3, .string a1_4] 64 (0, 0))) ∧ J0 (Below w.heap.size w wc))
 case first =>
  have H := HC3.o; clear HC3; obtain ⟨t103, A6, H⟩ := ob_ H
  by_cases c7 : t103 = true
  ·subst c7; rw [if_pos rfl] at H; obtain ⟨t104, A8, H⟩ := ob_ H
   by_cases c9 : t104 = true
   ·subst c9; rw [if_pos rfl] at H; obtain ⟨t105, A10, H⟩ := ob_ H
    by_cases c11 : t105 = true
    ·subst c11; rw [if_pos rfl] at H
     have H' := q_ H
     clear H; have hnb12 := NB102_101.o; have hnc12 := NB101_102.o; obtain ⟨hcz13_0, hcz13_1, hcz13_2, hcz13_3, hcz13_4, hfz13_0, hfz13_1, hfz13_2, hfz13_3, hfz13_4⟩ := d5_ BK102
     go_wp2_with (first | ((with_reducible refine gate_callee (f := 66) rfl ?_); refine gl_ (some 7) rfl rfl Tryz.func66 #[.string a1_0] ?_; (with_reducible refine (spec_l1Name.calls k a1_0 true _ A6.o).mono ?_); rintro e w' ⟨rfl, ⟨nd, rfl⟩⟩; refine ⟨_, rfl, ?_⟩) | (go_at_call 53; (with_reducible refine (spec_RxOk.calls k _ _ l1_1 true _ ?side1 ?side2 A8.o).mono ?_); (case side1 => repeat (first | exact (Kd.C_below HR1_1.o (be2_ HB.o GE101.o GE102.o)) | (with_reducible refine Kd.C_alloc ?_ _) | (with_reducible refine Kd.C_drewN ?_ _) | (with_reducible refine Kd.C_drew ?_))); (case side2 => exact HC1_1.o); rintro e w14 ⟨rfl, hb⟩; replace BK101 := lb_ BK101 hb; replace BK102 := lb_ BK102 hb; replace HB := sb2_ HB GE101 GE102 hb; (try clear hb); obtain ⟨hcz15_0, hcz15_1, hcz15_2, hcz15_3, hcz15_4, hfz15_0, hfz15_1, hfz15_2, hfz15_3, hfz15_4⟩ := d5_ BK102) | (go_at_call 91; (with_reducible refine (spec_Nullable.calls _ _ l1_1 true _ ?side1 ?side2 A10.o).mono ?_); (case side1 => exact Kd.C_below HR1_1.o (be_ HB.o)); (case side2 => exact HC1_1.o); rintro e w16 ⟨rfl, hb⟩; replace BK101 := lb_ BK101 hb; replace BK102 := lb_ BK102 hb; replace HB := sb2_ HB GE101 GE102 hb; (try clear hb)))
     go_meet
     case rel => exact ⟨_, (true), rs_, H', ⟨by first | omega | exact Nat.le_refl _⟩, ⟨bk_ BK101.o⟩, ⟨bk_ BK102.o⟩, ⟨be2_ HB.o GE101.o GE102.o⟩⟩
    ·replace c11 := Bool.eq_false_iff.mpr c11; subst c11; rw [if_neg nft_] at H; obtain ⟨t106, A17, H⟩ := ob_ H
     have H' := q_ H
     clear H; have hnb18 := NB102_101.o; have hnc18 := NB101_102.o; obtain ⟨hcz19_0, hcz19_1, hcz19_2, hcz19_3, hcz19_4, hfz19_0, hfz19_1, hfz19_2, hfz19_3, hfz19_4⟩ := d5_ BK102
     go_wp2_with (first | ((with_reducible refine gate_callee (f := 66) rfl ?_); refine gl_ (some 7) rfl rfl Tryz.func66 #[.string a1_0] ?_; (with_reducible refine (spec_l1Name.calls k a1_0 true _ A6.o).mono ?_); rintro e w' ⟨rfl, ⟨nd, rfl⟩⟩; refine ⟨_, rfl, ?_⟩) | (go_at_call 53; (with_reducible refine (spec_RxOk.calls k _ _ l1_1 true _ ?side1 ?side2 A8.o).mono ?_); (case side1 => repeat (first | exact (Kd.C_below HR1_1.o (be2_ HB.o GE101.o GE102.o)) | (with_reducible refine Kd.C_alloc ?_ _) | (with_reducible refine Kd.C_drewN ?_ _) | (with_reducible refine Kd.C_drew ?_))); (case side2 => exact HC1_1.o); rintro e w20 ⟨rfl, hb⟩; replace BK101 := lb_ BK101 hb; replace BK102 := lb_ BK102 hb; replace HB := sb2_ HB GE101 GE102 hb; (try clear hb); obtain ⟨hcz21_0, hcz21_1, hcz21_2, hcz21_3, hcz21_4, hfz21_0, hfz21_1, hfz21_2, hfz21_3, hfz21_4⟩ := d5_ BK102) | (go_at_call 91; (with_reducible refine (spec_Nullable.calls _ _ l1_1 false _ ?side1 ?side2 A10.o).mono ?_); (case side1 => exact Kd.C_below HR1_1.o (be_ HB.o)); (case side2 => exact HC1_1.o); rintro e w22 ⟨rfl, hb⟩; replace BK101 := lb_ BK101 hb; replace BK102 := lb_ BK102 hb; replace HB := sb2_ HB GE101 GE102 hb; (try clear hb); obtain ⟨hcz23_0, hcz23_1, hcz23_2, hcz23_3, hcz23_4, hfz23_0, hfz23_1, hfz23_2, hfz23_3, hfz23_4⟩ := d5_ BK102) | (go_at_call 51; (with_reducible refine (spec_l1In.calls a1_3 0 3 t106 _ A17.o).mono ?_); rintro e w' ⟨rfl, ⟨nd, rfl⟩⟩))
     go_meet
     case rel => exact ⟨_, (!t106), rs_, H', ⟨by first | omega | exact Nat.le_refl _⟩, ⟨bk_ BK101.o⟩, ⟨bk_ BK102.o⟩, ⟨be2_ HB.o GE101.o GE102.o⟩⟩
   ·replace c9 := Bool.eq_false_iff.mpr c9; subst c9; rw [if_neg nft_] at H
    have H' := q_ H
    clear H; have hnb24 := NB102_101.o; have hnc24 := NB101_102.o; obtain ⟨hcz25_0, hcz25_1, hcz25_2, hcz25_3, hcz25_4, hfz25_0, hfz25_1, hfz25_2, hfz25_3, hfz25_4⟩ := d5_ BK102
    go_wp2_with (first | ((with_reducible refine gate_callee (f := 66) rfl ?_); refine gl_ (some 7) rfl rfl Tryz.func66 #[.string a1_0] ?_; (with_reducible refine (spec_l1Name.calls k a1_0 true _ A6.o).mono ?_); rintro e w' ⟨rfl, ⟨nd, rfl⟩⟩; refine ⟨_, rfl, ?_⟩) | (go_at_call 53; (with_reducible refine (spec_RxOk.calls k _ _ l1_1 false _ ?side1 ?side2 A8.o).mono ?_); (case side1 => repeat (first | exact (Kd.C_below HR1_1.o (be2_ HB.o GE101.o GE102.o)) | (with_reducible refine Kd.C_alloc ?_ _) | (with_reducible refine Kd.C_drewN ?_ _) | (with_reducible refine Kd.C_drew ?_))); (case side2 => exact HC1_1.o); rintro e w26 ⟨rfl, hb⟩; replace BK101 := lb_ BK101 hb; replace BK102 := lb_ BK102 hb; replace HB := sb2_ HB GE101 GE102 hb; (try clear hb)))
    go_meet
    case rel => exact ⟨_, (true), rs_, H', ⟨by first | omega | exact Nat.le_refl _⟩, ⟨bk_ BK101.o⟩, ⟨bk_ BK102.o⟩, ⟨be2_ HB.o GE101.o GE102.o⟩⟩
  ·replace c7 := Bool.eq_false_iff.mpr c7; subst c7; rw [if_neg nft_] at H
   have H' := q_ H
   clear H; have hnb27 := NB102_101.o; have hnc27 := NB101_102.o; obtain ⟨hcz28_0, hcz28_1, hcz28_2, hcz28_3, hcz28_4, hfz28_0, hfz28_1, hfz28_2, hfz28_3, hfz28_4⟩ := d5_ BK102
   go_wp2_with (((with_reducible refine gate_callee (f := 66) rfl ?_); refine gl_ (some 7) rfl rfl Tryz.func66 #[.string a1_0] ?_; (with_reducible refine (spec_l1Name.calls k a1_0 false _ A6.o).mono ?_); rintro e w' ⟨rfl, ⟨nd, rfl⟩⟩; refine ⟨_, rfl, ?_⟩))
   go_meet
   case rel => exact ⟨_, (true), rs_, H', ⟨by first | omega | exact Nat.le_refl _⟩, ⟨bk_ BK101.o⟩, ⟨bk_ BK102.o⟩, ⟨be2_ HB.o GE101.o GE102.o⟩⟩
 case rest =>
  clear HC3; (try clear c7); (try clear c9); (try clear c11); (try clear hcz13_0); (try clear hcz13_1); (try clear hcz13_2); (try clear hcz13_3); (try clear hcz13_4); (try clear hcz15_0); (try clear hcz15_1); (try clear hcz15_2); (try clear hcz15_3); (try clear hcz15_4); (try clear hcz19_0); (try clear hcz19_1); (try clear hcz19_2); (try clear hcz19_3); (try clear hcz19_4); (try clear hcz21_0); (try clear hcz21_1); (try clear hcz21_2); (try clear hcz21_3); (try clear hcz21_4); (try clear hcz23_0); (try clear hcz23_1); (try clear hcz23_2); (try clear hcz23_3); (try clear hcz23_4); (try clear hcz25_0); (try clear hcz25_1); (try clear hcz25_2); (try clear hcz25_3); (try clear hcz25_4); (try clear hcz28_0); (try clear hcz28_1); (try clear hcz28_2); (try clear hcz28_3); (try clear hcz28_4); (try clear hfz13_0); (try clear hfz13_1); (try clear hfz13_2); (try clear hfz13_3); (try clear hfz13_4); (try clear hfz15_0); (try clear hfz15_1); (try clear hfz15_2); (try clear hfz15_3); (try clear hfz15_4); (try clear hfz19_0); (try clear hfz19_1); (try clear hfz19_2); (try clear hfz19_3); (try clear hfz19_4); (try clear hfz21_0); (try clear hfz21_1); (try clear hfz21_2); (try clear hfz21_3); (try clear hfz21_4); (try clear hfz23_0); (try clear hfz23_1); (try clear hfz23_2); (try clear hfz23_3); (try clear hfz23_4); (try clear hfz25_0); (try clear hfz25_1); (try clear hfz25_2); (try clear hfz25_3); (try clear hfz25_4); (try clear hfz28_0); (try clear hfz28_1); (try clear hfz28_2); (try clear hfz28_3); (try clear hfz28_4); obtain ⟨kq, x25_2, rfl, HA, HJ2, BK101, BK102, HB⟩ := hcut
  cases kq with
  | zero => exact absurd HA.o (by simp [spec_l5Rule.j0])
  | succ kj2 =>
   have H := HA.o; clear HA
   simp only [spec_l5Rule.j0] at H
   by_cases c29 : x25_2 = true
   ·subst c29; rw [if_pos rfl] at H; obtain rfl := Option.some.inj H
    go_wp2
    go_ret
    exact ⟨rt_, be2_ HB.o GE101.o GE102.o⟩
   ·replace c29 := Bool.eq_false_iff.mpr c29; subst c29; rw [if_neg nft_] at H
    by_cases c30 : a1_3 = 1
    ·rw [if_pos c30] at H
     have c30b0 : (a1_3 == 1) = true := beq_iff_eq.mpr c30
     have c30b1 : (a1_3 != 1) = false := bne_eq_false_iff_eq.mpr c30
     clear c30; obtain ⟨t107, A31, H⟩ := ob_ H; obtain rfl := Option.some.inj H; have hnb32 := NB102_101.o; have hnc32 := NB101_102.o; obtain ⟨hcz33_0, hcz33_1, hcz33_2, hcz33_3, hcz33_4, hfz33_0, hfz33_1, hfz33_2, hfz33_3, hfz33_4⟩ := d5_ BK102; obtain ⟨hcz34_0, hfz34_0⟩ := d1_ BK101
     go_wp2_with (((with_reducible refine gate_callee (f := 67) rfl ?_); refine gl_ (some 37) rfl rfl Tryz.func67 #[.agg #[.slice A0_0 l0_0.length c0_0], .string a1_4] ?_; (with_reducible refine (spec_ModeAt.calls kj2 _ _ l0_0 a1_4 t107 _ ?side1 ?side2 A31.o).mono ?_); (case side1 => exact Kd.C_below HR0_0.o (be_ HB.o)); (case side2 => exact HC0_0.o); rintro e w35 ⟨rfl, hb⟩; refine ⟨_, rfl, ?_⟩; replace BK101 := lb_ BK101 hb; replace BK102 := lb_ BK102 hb; replace HB := sb2_ HB GE101 GE102 hb; (try clear hb)))
     go_ret
     exact ⟨rt_, be2_ HB.o GE101.o GE102.o⟩
    ·rw [if_neg c30] at H
     have c30b0 : (a1_3 == 1) = false := beq_eq_false_iff_ne.mpr c30
     have c30b1 : (a1_3 != 1) = true := bne_iff_ne.mpr c30
     by_cases c36 : a1_3 = 2
     ·rw [if_pos c36] at H
      have c36b0 : (a1_3 == 2) = true := beq_iff_eq.mpr c36
      have c36b1 : (a1_3 != 2) = false := bne_eq_false_iff_eq.mpr c36
      clear c36; obtain ⟨t108, A37, H⟩ := ob_ H; obtain rfl := Option.some.inj H; have hnb38 := NB102_101.o; have hnc38 := NB101_102.o; obtain ⟨hcz39_0, hcz39_1, hcz39_2, hcz39_3, hcz39_4, hfz39_0, hfz39_1, hfz39_2, hfz39_3, hfz39_4⟩ := d5_ BK102; obtain ⟨hcz40_0, hfz40_0⟩ := d1_ BK101
      go_wp2_with (((with_reducible refine gate_callee (f := 67) rfl ?_); refine gl_ (some 37) rfl rfl Tryz.func67 #[.agg #[.slice A0_0 l0_0.length c0_0], .string a1_4] ?_; (with_reducible refine (spec_ModeAt.calls kj2 _ _ l0_0 a1_4 t108 _ ?side1 ?side2 A37.o).mono ?_); (case side1 => exact Kd.C_below HR0_0.o (be_ HB.o)); (case side2 => exact HC0_0.o); rintro e w41 ⟨rfl, hb⟩; refine ⟨_, rfl, ?_⟩; replace BK101 := lb_ BK101 hb; replace BK102 := lb_ BK102 hb; replace HB := sb2_ HB GE101 GE102 hb; (try clear hb)))
      go_ret
      exact ⟨rt_, be2_ HB.o GE101.o GE102.o⟩
     ·rw [if_neg c36] at H
      have c36b0 : (a1_3 == 2) = false := beq_eq_false_iff_ne.mpr c36
      have c36b1 : (a1_3 != 2) = true := bne_iff_ne.mpr c36
      obtain rfl := Option.some.inj H; have hnb42 := NB102_101.o; have hnc42 := NB101_102.o; obtain ⟨hcz43_0, hcz43_1, hcz43_2, hcz43_3, hcz43_4, hfz43_0, hfz43_1, hfz43_2, hfz43_3, hfz43_4⟩ := d5_ BK102
      go_wp2
      go_ret
      exact ⟨rt_, be2_ HB.o GE101.o GE102.o⟩
/-! ### spec_GrammarOk: function 36 -/
mutual
def spec_GrammarOk.j0 : Nat → Bool → List (S62) → Option (Bool)
 | 0, _, _ => none
 | k + 1, x15, x102000 => if x15 = true then (some false) else (spec_GrammarOk.l0 k 0 x102000)
def spec_GrammarOk.l0 : Nat → Int → List (S62) → Option (Bool)
 | 0, _, _ => none
 | k + 1, x3, x102000 => if x3 < (x102000.length : Int) then (if 0 ≤ x3 then ((spec_l1Name.f k ((rd_T62 x102000 x3).f0)).bind fun t104 => (if t104 = true then ((spec_ModeAt.f k x102000 ((rd_T62 x102000 x3).f0)).bind fun t105 => (if t105 = x3 then (if (((rd_T62 x102000 x3).f1).length : Int) < 1 then (spec_GrammarOk.j2 k x3 true x102000 ((rd_T62 x102000 x3).f0) ((rd_T62 x102000 x3).f1)) else (spec_GrammarOk.j2 k x3 (decide ((((rd_T62 x102000 x3).f1).length : Int) > 40)) x102000 ((rd_T62 x102000 x3).f0) ((rd_T62 x102000 x3).f1))) else (spec_GrammarOk.j2 k x3 true x102000 ((rd_T62 x102000 x3).f0) ((rd_T62 x102000 x3).f1)))) else (spec_GrammarOk.j2 k x3 true x102000 ((rd_T62 x102000 x3).f0) ((rd_T62 x102000 x3).f1)))) else (none)) else (some true)
def spec_GrammarOk.j2 : Nat → Int → Bool → List (S62) → ByteArray → List (S64) → Option (Bool)
 | 0, _, _, _, _, _ => none
 | k + 1, x3, x51, x102000, x104000, x104001 => if x51 = true then (some false) else (spec_GrammarOk.l1 k x3 0 x102000 x104000 x104001)
def spec_GrammarOk.l1 : Nat → Int → Int → List (S62) → ByteArray → List (S64) → Option (Bool)
 | 0, _, _, _, _, _ => none
 | k + 1, x3, x5, x102000, x104000, x104001 => if x5 < (x104001.length : Int) then (if 0 ≤ x5 then ((spec_l5Rule.f k x102000 ((rd_T64 x104001 x5).f0) ((rd_T64 x104001 x5).f1.f0) ((rd_T64 x104001 x5).f2) ((rd_T64 x104001 x5).f3) ((rd_T64 x104001 x5).f4)).bind fun t107 => (if t107 = true then (spec_GrammarOk.l1 k x3 (wrap64 (x5 + 1)) x102000 x104000 x104001) else (some false))) else (none)) else (spec_GrammarOk.l0 k (wrap64 (x3 + 1)) x102000)
end
def spec_GrammarOk.f (k : Nat) (l0_0 : List (S62)) : Option (Bool) := if (l0_0.length : Int) < 1 then (spec_GrammarOk.j0 k true l0_0) else (spec_GrammarOk.j0 k (decide ((l0_0.length : Int) > 12)) l0_0)
def spec_GrammarOk.T12 : Bool × List (List Nat × List Nat) := (true, [([], []), ([], []), ([1], [1]), ([], []), ([2, 3], [2, 3]), ([4], [4]), ([0, 5], [0, 5]), ([6], [6])])
def spec_GrammarOk.B12 : List Nat := [0, 0, 2, 0, 14, 30, 63, 127]
theorem spec_GrammarOk.tab12 : rtab .any (opsOf Tryz.f36 12) = spec_GrammarOk.T12 := by kernel_rfl
theorem spec_GrammarOk.bits12 : waitsOk spec_GrammarOk.T12.2 spec_GrammarOk.B12 = true := by kernel_rfl
theorem spec_GrammarOk.calls (k : Nat) (A0_0 : Option Addr) (c0_0 : Nat) (l0_0 : List (S62)) (r : Bool) (w : World) (hr0_0 : Kd.C k62 w A0_0 l0_0.length l0_0) (hc0_0 : l0_0.length ≤ c0_0) (h : spec_GrammarOk.f k l0_0 = some r) :
  Calls Tryz.prog 36 #[.agg #[.slice A0_0 l0_0.length c0_0]] w fun e w' => e = .returned (.bool r) ∧ Below w.heap.size w w' := by
 have hu31 := Tryz.underlying31; have hu62 := Tryz.underlying62; have hu64 := Tryz.underlying64; have HR0_0 := q_ hr0_0; have HC0_0 := q_ hc0_0; clear hr0_0 hc0_0; have HB := q_ (Below.refl w.heap.size w)
 have H : (if (l0_0.length : Int) < 1 then (spec_GrammarOk.j0 k true l0_0) else (spec_GrammarOk.j0 k (decide ((l0_0.length : Int) > 12)) l0_0)) = some r := h
 clear h; have HC2 := q_ H; clear H
 go_enter Tryz.func36, Tryz.ntmps36
 go_upto_region 1 with (((with_reducible refine gate_dst (N := 1) rfl ?_); (try (refine gate_guard (by rfl) ?_; dsimp only)); refine bx_ 1 #[.slice A0_0 l0_0.length c0_0] 31 ?_; intro gb101 hg w3 hbox hb; have BK101 := q_ (hbox); have GE101 := ge_ hg HB; replace HB := sb_ HB hb; clear hb hbox hg))
 (try simp only [Act.put, List.setIfInBounds_toArray, List.set_cons_zero, List.set_cons_succ])
 go_cut [15] (fun v15 wc => ∃ (kq : Nat) (x15_1 : Bool), v15 = .bool x15_1 ∧ J0 (spec_GrammarOk.j0 kq x15_1 l0_0 = some r) ∧ J0 (kq ≤ k) ∧ J0 (wc.heap[gb101]? = some (.cells #[(.slice A0_0 l0_0.length c0_0)] 31 (0, 0))) ∧ J0 (Below w.heap.size w wc))
 case first =>
  have H := HC2.o; clear HC2
  by_cases c4 : (l0_0.length : Int) < 1
  ·rw [if_pos c4] at H; have c4b0 := dt_ c4
   have c4b1 : decide (l0_0.length < 1) = true := decide_eq_true (by omega)
   clear c4
   (first | rw [c4b0] | (simp only [i64_w, i32_w]; rw [c4b0]) | skip)
   have H' := q_ H
   clear H; obtain ⟨hcz5_0, hfz5_0⟩ := d1_ BK101
   go_wp2
   go_meet
   case rel => exact ⟨_, (true), rs_, H', ⟨by first | omega | exact Nat.le_refl _⟩, ⟨bk_ BK101.o⟩, ⟨be1_ HB.o GE101.o⟩⟩
  ·rw [if_neg c4] at H; have c4b0 := df_ c4
   have c4b1 : decide (l0_0.length < 1) = false := decide_eq_false (by omega)
   clear c4
   (first | rw [c4b0] | (simp only [i64_w, i32_w]; rw [c4b0]) | skip)
   have H' := q_ H
   clear H; obtain ⟨hcz6_0, hfz6_0⟩ := d1_ BK101
   go_wp2
   go_meet
   case rel => exact ⟨_, (decide ((l0_0.length : Int) > 12)), rs_, H', ⟨by first | omega | exact Nat.le_refl _⟩, ⟨bk_ BK101.o⟩, ⟨be1_ HB.o GE101.o⟩⟩
 case rest =>
  clear HC2; (try clear c4); (try clear c4b0); (try clear c4b1); (try clear hcz5_0); (try clear hcz6_0); (try clear hfz5_0); (try clear hfz6_0); obtain ⟨kq, x15_1, rfl, HA, HJ1, BK101, HB⟩ := hcut
  cases kq with
  | zero => exact absurd HA.o (by simp [spec_GrammarOk.j0])
  | succ kj1 =>
   have H := HA.o; clear HA
   simp only [spec_GrammarOk.j0] at H
   by_cases c7 : x15_1 = true
   ·subst c7; rw [if_pos rfl] at H; obtain rfl := Option.some.inj H
    go_wp2
    go_ret
    exact ⟨rt_, be1_ HB.o GE101.o⟩
   ·replace c7 := Bool.eq_false_iff.mpr c7; subst c7; rw [if_neg nft_] at H
    have H' := q_ H
    clear H
    go_wp2
    go_loopg [3] kj1 (fun kq v3 w' => ∃ (x3_2 : Int), v3 = .int .i64 x3_2 ∧ J0 (spec_GrammarOk.l0 kq x3_2 l0_0 = some r) ∧ J0 (kq ≤ kj1) ∧ J0 (w'.heap[gb101]? = some (.cells #[(.slice A0_0 l0_0.length c0_0)] 31 (0, 0))) ∧ J0 (Below w.heap.size w w'))
    case atStart => exact ⟨(0), rs_, H', ⟨Nat.le_refl _⟩, ⟨bk_ BK101.o⟩, ⟨be1_ HB.o GE101.o⟩⟩
    case round =>
     clear H'; (try clear c4); (try clear c4b0); (try clear c4b1); (try clear c7); (try clear hcz5_0); (try clear hcz6_0); (try clear hfz5_0); (try clear hfz6_0); obtain ⟨x3_2, rfl, HA, HK2, BK101, HB⟩ := hrel
     cases gk with
     | zero => exact absurd HA.o (by simp [spec_GrammarOk.l0])
     | succ k2 =>
      have H := HA.o; clear HA
      simp only [spec_GrammarOk.l0] at H
      by_cases c8 : x3_2 < (l0_0.length : Int)
      ·rw [if_pos c8] at H; have c8b0 := dt_ c8; clear c8
       by_cases c9 : 0 ≤ x3_2
       ·rw [if_pos c9] at H; have c9b0 := dt_ c9; clear c9; have HC10 := q_ H; clear H; obtain ⟨hcz11_0, hfz11_0⟩ := d1_ BK101
        have p102 : 0 ≤ (x3_2 : Int) := of_decide_eq_true as_
        have q102 : x3_2 < (l0_0.length : Int) := of_decide_eq_true as_
        obtain ⟨ad102, A102_1, c102_1, e102, hx102_0, hx102_1, hl102_1, hi102_1⟩ := at_T62 HR0_0.o x3_2 p102 q102
        cases e102
        replace hx102_0 := mv_ HB.o hx102_0; replace hx102_1 := mv_ HB.o hx102_1; have HR102_1 := q_ hi102_1; have HC102_1 := q_ hl102_1; clear hi102_1 hl102_1; replace p102 := eq_true p102; replace q102 := eq_true q102
        go_upto_region 7 with (((with_reducible refine gate_dst (N := 4) rfl ?_); (try (refine gate_guard (by rfl) ?_; dsimp only)); refine bx_ 4 #[.string (⟨#[]⟩ : ByteArray), .slice none 0 0] 62 ?_; intro gb103 hg w12 hbox hb; have BK103 := q_ (hbox); have GE103 := ge1_ hg HB GE101; have NB101_103 := nl_ hg BK101; have NB103_101 := ng_ hg BK101; replace BK101 := lb_ BK101 hb; replace HB := sb1_ HB GE101 hb; clear hb hbox hg; have hnb13 := NB103_101.o; have hnc13 := NB101_103.o; obtain ⟨hcz14_0, hcz14_1, hfz14_0, hfz14_1⟩ := d2_ BK103))
        (try simp only [Act.put, List.setIfInBounds_toArray, List.set_cons_zero, List.set_cons_succ])
        go_cut [51] (fun v51 wc => ∃ (kq : Nat) (x51_9 : Bool), v51 = .bool x51_9 ∧ J0 (spec_GrammarOk.j2 kq x3_2 x51_9 l0_0 ((rd_T62 l0_0 x3_2).f0) ((rd_T62 l0_0 x3_2).f1) = some r) ∧ J0 (kq ≤ k2) ∧ J0 (wc.heap[gb101]? = some (.cells #[(.slice (some ad102) l0_0.length c0_0)] 31 (0, 0))) ∧ J0 (wc.heap[gb103]? = some (.cells #[.string ((rd_T62 l0_0 x3_2).f0), (.slice A102_1 ((rd_T62 l0_0 x3_2).f1).length c102_1)] 62 (0, 0))) ∧ J0 (Below w.heap.size w wc))
        case first =>
         have H := HC10.o; clear HC10; obtain ⟨t104, A15, H⟩ := ob_ H
         by_cases c16 : t104 = true
         ·subst c16; rw [if_pos rfl] at H; obtain ⟨t105, A17, H⟩ := ob_ H
          by_cases c18 : t105 = x3_2
          ·rw [if_pos c18] at H
           have c18b0 : (t105 == x3_2) = true := beq_iff_eq.mpr c18
           have c18b1 : (t105 != x3_2) = false := bne_eq_false_iff_eq.mpr c18
           clear c18
           (first | rw [c18b0] | (simp only [i64_w, i32_w]; rw [c18b0]) | skip)
           by_cases c19 : (((rd_T62 l0_0 x3_2).f1).length : Int) < 1
           ·rw [if_pos c19] at H; have c19b0 := dt_ c19
            have c19b1 : decide (((rd_T62 l0_0 x3_2).f1).length < 1) = true := decide_eq_true (by omega)
            clear c19
            have H' := q_ H
            clear H; have hnb20 := NB103_101.o; have hnc20 := NB101_103.o; obtain ⟨hcz21_0, hcz21_1, hfz21_0, hfz21_1⟩ := d2_ BK103
            go_wp2_with (first | ((with_reducible refine gate_callee (f := 66) rfl ?_); refine gl_ (some 30) rfl rfl Tryz.func66 #[.string ((rd_T62 l0_0 x3_2).f0)] ?_; (with_reducible refine (spec_l1Name.calls k2 ((rd_T62 l0_0 x3_2).f0) true _ A15.o).mono ?_); rintro e w' ⟨rfl, ⟨nd, rfl⟩⟩; refine ⟨_, rfl, ?_⟩; obtain ⟨hcz22_0, hfz22_0⟩ := d1_ BK101) | (go_at_call 67; (with_reducible refine (spec_ModeAt.calls k2 _ _ l0_0 ((rd_T62 l0_0 x3_2).f0) t105 _ ?side1 ?side2 A17.o).mono ?_); (case side1 => exact Kd.C_below HR0_0.o (be2_ HB.o GE101.o GE103.o)); (case side2 => exact HC0_0.o); rintro e w23 ⟨rfl, hb⟩; replace BK101 := q_ (blk_below (g := gb101) (o := .cells #[.slice (some ad102) l0_0.length c0_0] 31 (0, 0)) (by (with_reducible repeat (first | refine blk_drewN ?_ _ | refine blk_drew ?_ | refine blk_alloc ?_ _)); refine blk_far ?_ NB101_103.o _; (with_reducible repeat (first | refine blk_drewN ?_ _ | refine blk_drew ?_ | refine blk_alloc ?_ _)); refine blk_far ?_ NB101_103.o _; (with_reducible repeat (first | refine blk_drewN ?_ _ | refine blk_drew ?_ | refine blk_alloc ?_ _)); exact BK101.o) hb); replace BK103 := q_ (blk_below (g := gb103) (o := .cells #[.string ((rd_T62 l0_0 x3_2).f0), .slice A102_1 ((rd_T62 l0_0 x3_2).f1).length c102_1] 62 (0, 0)) (by (with_reducible repeat (first | refine blk_drewN ?_ _ | refine blk_drew ?_ | refine blk_alloc ?_ _)); refine blk_put (cs := #[.string ((rd_T62 l0_0 x3_2).f0), .slice none 0 0]) ?_ 1 _ rfl; (with_reducible repeat (first | refine blk_drewN ?_ _ | refine blk_drew ?_ | refine blk_alloc ?_ _)); refine blk_put (cs := #[.string (⟨#[]⟩ : ByteArray), .slice none 0 0]) ?_ 0 _ rfl; (with_reducible repeat (first | refine blk_drewN ?_ _ | refine blk_drew ?_ | refine blk_alloc ?_ _)); exact BK103.o) hb); replace HB := sb2_ HB GE101 GE103 hb; (try clear hb); obtain ⟨hcz24_0, hcz24_1, hfz24_0, hfz24_1⟩ := d2_ BK103))
            go_meet
            case rel => exact ⟨_, (true), rs_, H', ⟨by have := HJ1.o; have := HK2.o; first | omega | exact Nat.le_refl _⟩, ⟨bk_ BK101.o⟩, ⟨bk_ BK103.o⟩, ⟨be2_ HB.o GE101.o GE103.o⟩⟩
           ·rw [if_neg c19] at H; have c19b0 := df_ c19
            have c19b1 : decide (((rd_T62 l0_0 x3_2).f1).length < 1) = false := decide_eq_false (by omega)
            clear c19
            have H' := q_ H
            clear H; have hnb25 := NB103_101.o; have hnc25 := NB101_103.o; obtain ⟨hcz26_0, hcz26_1, hfz26_0, hfz26_1⟩ := d2_ BK103
            go_wp2_with (first | ((with_reducible refine gate_callee (f := 66) rfl ?_); refine gl_ (some 30) rfl rfl Tryz.func66 #[.string ((rd_T62 l0_0 x3_2).f0)] ?_; (with_reducible refine (spec_l1Name.calls k2 ((rd_T62 l0_0 x3_2).f0) true _ A15.o).mono ?_); rintro e w' ⟨rfl, ⟨nd, rfl⟩⟩; refine ⟨_, rfl, ?_⟩; obtain ⟨hcz27_0, hfz27_0⟩ := d1_ BK101) | (go_at_call 67; (with_reducible refine (spec_ModeAt.calls k2 _ _ l0_0 ((rd_T62 l0_0 x3_2).f0) t105 _ ?side1 ?side2 A17.o).mono ?_); (case side1 => exact Kd.C_below HR0_0.o (be2_ HB.o GE101.o GE103.o)); (case side2 => exact HC0_0.o); rintro e w28 ⟨rfl, hb⟩; replace BK101 := q_ (blk_below (g := gb101) (o := .cells #[.slice (some ad102) l0_0.length c0_0] 31 (0, 0)) (by (with_reducible repeat (first | refine blk_drewN ?_ _ | refine blk_drew ?_ | refine blk_alloc ?_ _)); refine blk_far ?_ NB101_103.o _; (with_reducible repeat (first | refine blk_drewN ?_ _ | refine blk_drew ?_ | refine blk_alloc ?_ _)); refine blk_far ?_ NB101_103.o _; (with_reducible repeat (first | refine blk_drewN ?_ _ | refine blk_drew ?_ | refine blk_alloc ?_ _)); exact BK101.o) hb); replace BK103 := q_ (blk_below (g := gb103) (o := .cells #[.string ((rd_T62 l0_0 x3_2).f0), .slice A102_1 ((rd_T62 l0_0 x3_2).f1).length c102_1] 62 (0, 0)) (by (with_reducible repeat (first | refine blk_drewN ?_ _ | refine blk_drew ?_ | refine blk_alloc ?_ _)); refine blk_put (cs := #[.string ((rd_T62 l0_0 x3_2).f0), .slice none 0 0]) ?_ 1 _ rfl; (with_reducible repeat (first | refine blk_drewN ?_ _ | refine blk_drew ?_ | refine blk_alloc ?_ _)); refine blk_put (cs := #[.string (⟨#[]⟩ : ByteArray), .slice none 0 0]) ?_ 0 _ rfl; (with_reducible repeat (first | refine blk_drewN ?_ _ | refine blk_drew ?_ | refine blk_alloc ?_ _)); exact BK103.o) hb); replace HB := sb2_ HB GE101 GE103 hb; (try clear hb); obtain ⟨hcz29_0, hcz29_1, hfz29_0, hfz29_1⟩ := d2_ BK103))
            go_meet
            case rel => exact ⟨_, (decide ((((rd_T62 l0_0 x3_2).f1).length : Int) > 40)), rs_, H', ⟨by have := HJ1.o; have := HK2.o; first | omega | exact Nat.le_refl _⟩, ⟨bk_ BK101.o⟩, ⟨bk_ BK103.o⟩, ⟨be2_ HB.o GE101.o GE103.o⟩⟩
          ·rw [if_neg c18] at H
           have c18b0 : (t105 == x3_2) = false := beq_eq_false_iff_ne.mpr c18
           have c18b1 : (t105 != x3_2) = true := bne_iff_ne.mpr c18
           (first | rw [c18b0] | (simp only [i64_w, i32_w]; rw [c18b0]) | skip)
           have H' := q_ H
           clear H; have hnb30 := NB103_101.o; have hnc30 := NB101_103.o; obtain ⟨hcz31_0, hcz31_1, hfz31_0, hfz31_1⟩ := d2_ BK103
           go_wp2_with (first | ((with_reducible refine gate_callee (f := 66) rfl ?_); refine gl_ (some 30) rfl rfl Tryz.func66 #[.string ((rd_T62 l0_0 x3_2).f0)] ?_; (with_reducible refine (spec_l1Name.calls k2 ((rd_T62 l0_0 x3_2).f0) true _ A15.o).mono ?_); rintro e w' ⟨rfl, ⟨nd, rfl⟩⟩; refine ⟨_, rfl, ?_⟩; obtain ⟨hcz32_0, hfz32_0⟩ := d1_ BK101) | (go_at_call 67; (with_reducible refine (spec_ModeAt.calls k2 _ _ l0_0 ((rd_T62 l0_0 x3_2).f0) t105 _ ?side1 ?side2 A17.o).mono ?_); (case side1 => exact Kd.C_below HR0_0.o (be2_ HB.o GE101.o GE103.o)); (case side2 => exact HC0_0.o); rintro e w33 ⟨rfl, hb⟩; replace BK101 := q_ (blk_below (g := gb101) (o := .cells #[.slice (some ad102) l0_0.length c0_0] 31 (0, 0)) (by (with_reducible repeat (first | refine blk_drewN ?_ _ | refine blk_drew ?_ | refine blk_alloc ?_ _)); refine blk_far ?_ NB101_103.o _; (with_reducible repeat (first | refine blk_drewN ?_ _ | refine blk_drew ?_ | refine blk_alloc ?_ _)); refine blk_far ?_ NB101_103.o _; (with_reducible repeat (first | refine blk_drewN ?_ _ | refine blk_drew ?_ | refine blk_alloc ?_ _)); exact BK101.o) hb); replace BK103 := q_ (blk_below (g := gb103) (o := .cells #[.string ((rd_T62 l0_0 x3_2).f0), .slice A102_1 ((rd_T62 l0_0 x3_2).f1).length c102_1] 62 (0, 0)) (by (with_reducible repeat (first | refine blk_drewN ?_ _ | refine blk_drew ?_ | refine blk_alloc ?_ _)); refine blk_put (cs := #[.string ((rd_T62 l0_0 x3_2).f0), .slice none 0 0]) ?_ 1 _ rfl; (with_reducible repeat (first | refine blk_drewN ?_ _ | refine blk_drew ?_ | refine blk_alloc ?_ _)); refine blk_put (cs := #[.string (⟨#[]⟩ : ByteArray), .slice none 0 0]) ?_ 0 _ rfl; (with_reducible repeat (first | refine blk_drewN ?_ _ | refine blk_drew ?_ | refine blk_alloc ?_ _)); exact BK103.o) hb); replace HB := sb2_ HB GE101 GE103 hb; (try clear hb)))
           go_meet
           case rel => exact ⟨_, (true), rs_, H', ⟨by have := HJ1.o; have := HK2.o; first | omega | exact Nat.le_refl _⟩, ⟨bk_ BK101.o⟩, ⟨bk_ BK103.o⟩, ⟨be2_ HB.o GE101.o GE103.o⟩⟩
         ·replace c16 := Bool.eq_false_iff.mpr c16; subst c16; rw [if_neg nft_] at H
          have H' := q_ H
          clear H; have hnb34 := NB103_101.o; have hnc34 := NB101_103.o; obtain ⟨hcz35_0, hcz35_1, hfz35_0, hfz35_1⟩ := d2_ BK103
          go_wp2_with (((with_reducible refine gate_callee (f := 66) rfl ?_); refine gl_ (some 30) rfl rfl Tryz.func66 #[.string ((rd_T62 l0_0 x3_2).f0)] ?_; (with_reducible refine (spec_l1Name.calls k2 ((rd_T62 l0_0 x3_2).f0) false _ A15.o).mono ?_); rintro e w' ⟨rfl, ⟨nd, rfl⟩⟩; refine ⟨_, rfl, ?_⟩))
          go_meet
          case rel => exact ⟨_, (true), rs_, H', ⟨by have := HJ1.o; have := HK2.o; first | omega | exact Nat.le_refl _⟩, ⟨by (with_reducible repeat (first | refine blk_drewN ?_ _ | refine blk_drew ?_ | refine blk_alloc ?_ _)); refine blk_far ?_ NB101_103.o _; (with_reducible repeat (first | refine blk_drewN ?_ _ | refine blk_drew ?_ | refine blk_alloc ?_ _)); refine blk_far ?_ NB101_103.o _; (with_reducible repeat (first | refine blk_drewN ?_ _ | refine blk_drew ?_ | refine blk_alloc ?_ _)); exact BK101.o⟩, ⟨by (with_reducible repeat (first | refine blk_drewN ?_ _ | refine blk_drew ?_ | refine blk_alloc ?_ _)); refine blk_put (cs := #[.string ((rd_T62 l0_0 x3_2).f0), .slice none 0 0]) ?_ 1 _ rfl; (with_reducible repeat (first | refine blk_drewN ?_ _ | refine blk_drew ?_ | refine blk_alloc ?_ _)); refine blk_put (cs := #[.string (⟨#[]⟩ : ByteArray), .slice none 0 0]) ?_ 0 _ rfl; (with_reducible repeat (first | refine blk_drewN ?_ _ | refine blk_drew ?_ | refine blk_alloc ?_ _)); exact BK103.o⟩, ⟨be2_ HB.o GE101.o GE103.o⟩⟩
        case rest =>
         clear HC10; (try clear c4); (try clear c4b0); (try clear c4b1); (try clear c7); (try clear c8); (try clear c8b0); (try clear c9); (try clear c9b0); (try clear c16); (try clear c18); (try clear c18b0); (try clear c18b1); (try clear c19); (try clear c19b0); (try clear c19b1); (try clear hcz11_0); (try clear hcz14_0); (try clear hcz14_1); (try clear hcz21_0); (try clear hcz21_1); (try clear hcz22_0); (try clear hcz24_0); (try clear hcz24_1); (try clear hcz26_0); (try clear hcz26_1); (try clear hcz27_0); (try clear hcz29_0); (try clear hcz29_1); (try clear hcz31_0); (try clear hcz31_1); (try clear hcz32_0); (try clear hcz35_0); (try clear hcz35_1); (try clear hcz5_0); (try clear hcz6_0); (try clear hfz11_0); (try clear hfz14_0); (try clear hfz14_1); (try clear hfz21_0); (try clear hfz21_1); (try clear hfz22_0); (try clear hfz24_0); (try clear hfz24_1); (try clear hfz26_0); (try clear hfz26_1); (try clear hfz27_0); (try clear hfz29_0); (try clear hfz29_1); (try clear hfz31_0); (try clear hfz31_1); (try clear hfz32_0); (try clear hfz35_0); (try clear hfz35_1); (try clear hfz5_0); (try clear hfz6_0); (try clear hx102_0); (try clear hx102_1); (try clear p102); (try clear q102); obtain ⟨kq, x51_9, rfl, HA, HJ9, BK101, BK103, HB⟩ := hcut
         cases kq with
         | zero => exact absurd HA.o (by simp [spec_GrammarOk.j2])
         | succ kj9 =>
          have H := HA.o; clear HA
          simp only [spec_GrammarOk.j2] at H
          by_cases c36 : x51_9 = true
          ·subst c36; rw [if_pos rfl] at H; obtain rfl := Option.some.inj H
           go_wp2
           go_ret
           exact ⟨rt_, be2_ HB.o GE101.o GE103.o⟩
          ·replace c36 := Bool.eq_false_iff.mpr c36; subst c36; rw [if_neg nft_] at H
           have H' := q_ H
           clear H
           go_wp2
           go_loopg [5] kj9 (fun kq v5 w' => ∃ (x5_4 : Int), v5 = .int .i64 x5_4 ∧ J0 (spec_GrammarOk.l1 kq x3_2 x5_4 l0_0 ((rd_T62 l0_0 x3_2).f0) ((rd_T62 l0_0 x3_2).f1) = some r) ∧ J0 (kq ≤ kj9) ∧ J0 (w'.heap[gb101]? = some (.cells #[(.slice (some ad102) l0_0.length c0_0)] 31 (0, 0))) ∧ J0 (w'.heap[gb103]? = some (.cells #[.string ((rd_T62 l0_0 x3_2).f0), (.slice A102_1 ((rd_T62 l0_0 x3_2).f1).length c102_1)] 62 (0, 0))) ∧ J0 (Below w.heap.size w w'))
           case atStart => exact ⟨(0), rs_, H', ⟨Nat.le_refl _⟩, ⟨bk_ BK101.o⟩, ⟨bk_ BK103.o⟩, ⟨be2_ HB.o GE101.o GE103.o⟩⟩
           case round =>
            clear H'; (try clear c4); (try clear c4b0); (try clear c4b1); (try clear c7); (try clear c8); (try clear c8b0); (try clear c9); (try clear c9b0); (try clear c16); (try clear c18); (try clear c18b0); (try clear c18b1); (try clear c19); (try clear c19b0); (try clear c19b1); (try clear c36); (try clear hcz11_0); (try clear hcz14_0); (try clear hcz14_1); (try clear hcz21_0); (try clear hcz21_1); (try clear hcz22_0); (try clear hcz24_0); (try clear hcz24_1); (try clear hcz26_0); (try clear hcz26_1); (try clear hcz27_0); (try clear hcz29_0); (try clear hcz29_1); (try clear hcz31_0); (try clear hcz31_1); (try clear hcz32_0); (try clear hcz35_0); (try clear hcz35_1); (try clear hcz5_0); (try clear hcz6_0); (try clear hfz11_0); (try clear hfz14_0); (try clear hfz14_1); (try clear hfz21_0); (try clear hfz21_1); (try clear hfz22_0); (try clear hfz24_0); (try clear hfz24_1); (try clear hfz26_0); (try clear hfz26_1); (try clear hfz27_0); (try clear hfz29_0); (try clear hfz29_1); (try clear hfz31_0); (try clear hfz31_1); (try clear hfz32_0); (try clear hfz35_0); (try clear hfz35_1); (try clear hfz5_0); (try clear hfz6_0); (try clear hx102_0); (try clear hx102_1); (try clear p102); (try clear q102); obtain ⟨x5_4, rfl, HA, HK4, BK101, BK103, HB⟩ := hrel
            cases gk with
            | zero => exact absurd HA.o (by simp [spec_GrammarOk.l1])
            | succ k4 =>
             have H := HA.o; clear HA
             simp only [spec_GrammarOk.l1] at H
             by_cases c37 : x5_4 < (((rd_T62 l0_0 x3_2).f1).length : Int)
             ·rw [if_pos c37] at H; have c37b0 := dt_ c37; clear c37
              by_cases c38 : 0 ≤ x5_4
              ·rw [if_pos c38] at H; have c38b0 := dt_ c38; clear c38; obtain ⟨t107, A39, H⟩ := ob_ H
               by_cases c40 : t107 = true
               ·subst c40; rw [if_pos rfl] at H
                have H' := q_ H
                clear H; have hnb41 := NB103_101.o; have hnc41 := NB101_103.o; obtain ⟨hcz42_0, hcz42_1, hfz42_0, hfz42_1⟩ := d2_ BK103
                try go_wp2
                replace BK101 := q_ (blk_drew BK101.o); replace BK103 := q_ (blk_drew BK103.o); replace HB := q_ (below_drew1 HB.o)
                have p106 : 0 ≤ (x5_4 : Int) := of_decide_eq_true as_
                have q106 : x5_4 < (((rd_T62 l0_0 x3_2).f1).length : Int) := of_decide_eq_true as_
                obtain ⟨ad106, A106_1, c106_1, e106, hx106_0, hx106_1, hx106_2, hx106_3, hx106_4, hl106_1, hi106_1⟩ := at_T64 HR102_1.o x5_4 p106 q106; have hw106_4 := hx106_4; have hw106_3 := hx106_3; have hw106_2 := hx106_2; have hw106_1 := hx106_1; have hw106_0 := hx106_0
                cases e106
                replace hx106_0 := mv_ HB.o hx106_0; replace hx106_1 := mv_ HB.o hx106_1; replace hx106_2 := mv_ HB.o hx106_2; replace hx106_3 := mv_ HB.o hx106_3; replace hx106_4 := mv_ HB.o hx106_4; have HR106_1 := q_ hi106_1; have HC106_1 := q_ hl106_1; clear hi106_1 hl106_1; replace p106 := eq_true p106; replace q106 := eq_true q106
                refine start_ (n := 8) (S := fun w' => w'.cell? ⟨gb101, 0, none⟩ = some (.slice (some ad102) l0_0.length c0_0) ∧ w'.cell? ⟨gb103, 0, none⟩ = some (.string ((rd_T62 l0_0 x3_2).f0)) ∧ w'.cell? ⟨gb103, 1, none⟩ = some (.slice (some ad106) ((rd_T62 l0_0 x3_2).f1).length c102_1) ∧ w'.cell? (ad106.add ((x5_4).toNat * 5)) = some (.string ((rd_T64 ((rd_T62 l0_0 x3_2).f1) x5_4).f0)) ∧ w'.cell? ⟨(ad106.add ((x5_4).toNat * 5)).block, (ad106.add ((x5_4).toNat * 5)).off + 1, none⟩ = some (.slice A106_1 ((rd_T64 ((rd_T62 l0_0 x3_2).f1) x5_4).f1.f0).length c106_1) ∧ w'.cell? ⟨(ad106.add ((x5_4).toNat * 5)).block, (ad106.add ((x5_4).toNat * 5)).off + 2, none⟩ = some (.bool ((rd_T64 ((rd_T62 l0_0 x3_2).f1) x5_4).f2)) ∧ w'.cell? ⟨(ad106.add ((x5_4).toNat * 5)).block, (ad106.add ((x5_4).toNat * 5)).off + 3, none⟩ = some (.int .i64 ((rd_T64 ((rd_T62 l0_0 x3_2).f1) x5_4).f3)) ∧ w'.cell? ⟨(ad106.add ((x5_4).toNat * 5)).block, (ad106.add ((x5_4).toNat * 5)).off + 4, none⟩ = some (.string ((rd_T64 ((rd_T62 l0_0 x3_2).f1) x5_4).f4))) (ds := []) (bb 8 0) (by kernel_rfl) rfl rfl ⟨(blk_cell BK101.o 0).trans rfl, (blk_cell BK103.o 0).trans rfl, (blk_cell BK103.o 1).trans rfl, (mv_ HB.o hw106_0), (mv_ HB.o hw106_1), (mv_ HB.o hw106_2), (mv_ HB.o hw106_3), (mv_ HB.o hw106_4)⟩ (fun hHeld => ?_); refine with_tabW spec_GrammarOk.tab12 spec_GrammarOk.bits12 (fun HT_ HW_ => ?_)
                generalize wr.drew = w43 at BK101 BK103 HB HR106_1 hx106_0 hx106_1 hx106_2 hx106_3 hx106_4 hHeld ⊢
                refine pv_ 1 60 2 HT_.o ?_; refine pv_ 3 62 10 HT_.o ?_; refine tv_ 0 59 11 HT_.o HW_.o hHeld ?_; refine tv_ 2 61 15 HT_.o HW_.o hHeld ?_; refine pv_ 4 63 31 HT_.o ?_; refine tv_ 5 64 63 HT_.o HW_.o hHeld ?_
                refine one_ (i := 6) (N := some 65) (bb 8 127) rfl rfl (one_of HT_.o (by kernel_rfl)) (by decide) (fun K hK => ?_)
                refine gs_ Tryz.func68 #[.agg #[.slice (some ad102) l0_0.length c0_0], .agg #[.string ((rd_T64 ((rd_T62 l0_0 x3_2).f1) x5_4).f0), .slice A106_1 ((rd_T64 ((rd_T62 l0_0 x3_2).f1) x5_4).f1.f0).length c106_1, .bool ((rd_T64 ((rd_T62 l0_0 x3_2).f1) x5_4).f2), .int .i64 ((rd_T64 ((rd_T62 l0_0 x3_2).f1) x5_4).f3), .string ((rd_T64 ((rd_T62 l0_0 x3_2).f1) x5_4).f4)]] ?_
                with_reducible refine (spec_l5Rule.calls k4 _ _ l0_0 ((rd_T64 ((rd_T62 l0_0 x3_2).f1) x5_4).f0) _ _ ((rd_T64 ((rd_T62 l0_0 x3_2).f1) x5_4).f1.f0) ((rd_T64 ((rd_T62 l0_0 x3_2).f1) x5_4).f2) ((rd_T64 ((rd_T62 l0_0 x3_2).f1) x5_4).f3) ((rd_T64 ((rd_T62 l0_0 x3_2).f1) x5_4).f4) true _ ?side1 ?side2 ?side3 ?side4 A39.o).mono ?_
                (case side1 => exact Kd.C_below HR0_0.o (be_ HB.o))
                (case side2 => exact HC0_0.o)
                (case side3 => exact Kd.C_below HR106_1.o (be_ HB.o))
                (case side4 => exact HC106_1.o)
                rintro e w44 ⟨rfl, hb⟩
                refine ⟨_, rfl, ?_⟩; replace BK101 := lb_ BK101 hb; replace BK103 := lb_ BK103 hb; replace HB := sb2_ HB GE101 GE103 hb
                (try clear hb)
                (try clear hb2)
                (try clear hk)
                (try clear hi)
                refine hK.out _ _ ⟨(blk_cell BK101.o 0).trans rfl, (blk_cell BK103.o 0).trans rfl, (blk_cell BK103.o 1).trans rfl, (mv_ HB.o hw106_0), (mv_ HB.o hw106_1), (mv_ HB.o hw106_2), (mv_ HB.o hw106_3), (mv_ HB.o hw106_4)⟩ (fun hHeld => ?_)
                clear hK K; refine no_ (some 65) ?_; refine pv_ 7 66 255 HT_.o ?_
                refine done_ (done_of HT_.o (by kernel_rfl)) ?_
                try go_wp2
                go_roundg k4
                case measure => have := HJ1.o; have := HK2.o; have := HJ9.o; have := HK4.o; omega
                case rel => exact ⟨(wrap64 (x5_4 + 1)), rs_, H', ⟨by have := HJ1.o; have := HK2.o; have := HJ9.o; have := HK4.o; omega⟩, ⟨bk_ BK101.o⟩, ⟨bk_ BK103.o⟩, ⟨be2_ HB.o GE101.o GE103.o⟩⟩
               ·replace c40 := Bool.eq_false_iff.mpr c40; subst c40; rw [if_neg nft_] at H; obtain rfl := Option.some.inj H; have hnb45 := NB103_101.o; have hnc45 := NB101_103.o; obtain ⟨hcz46_0, hcz46_1, hfz46_0, hfz46_1⟩ := d2_ BK103
                try go_wp2
                replace BK101 := q_ (blk_drew BK101.o); replace BK103 := q_ (blk_drew BK103.o); replace HB := q_ (below_drew1 HB.o)
                have p106 : 0 ≤ (x5_4 : Int) := of_decide_eq_true as_
                have q106 : x5_4 < (((rd_T62 l0_0 x3_2).f1).length : Int) := of_decide_eq_true as_
                obtain ⟨ad106, A106_1, c106_1, e106, hx106_0, hx106_1, hx106_2, hx106_3, hx106_4, hl106_1, hi106_1⟩ := at_T64 HR102_1.o x5_4 p106 q106; have hw106_4 := hx106_4; have hw106_3 := hx106_3; have hw106_2 := hx106_2; have hw106_1 := hx106_1; have hw106_0 := hx106_0
                cases e106
                replace hx106_0 := mv_ HB.o hx106_0; replace hx106_1 := mv_ HB.o hx106_1; replace hx106_2 := mv_ HB.o hx106_2; replace hx106_3 := mv_ HB.o hx106_3; replace hx106_4 := mv_ HB.o hx106_4; have HR106_1 := q_ hi106_1; have HC106_1 := q_ hl106_1; clear hi106_1 hl106_1; replace p106 := eq_true p106; replace q106 := eq_true q106
                refine start_ (n := 8) (S := fun w' => w'.cell? ⟨gb101, 0, none⟩ = some (.slice (some ad102) l0_0.length c0_0) ∧ w'.cell? ⟨gb103, 0, none⟩ = some (.string ((rd_T62 l0_0 x3_2).f0)) ∧ w'.cell? ⟨gb103, 1, none⟩ = some (.slice (some ad106) ((rd_T62 l0_0 x3_2).f1).length c102_1) ∧ w'.cell? (ad106.add ((x5_4).toNat * 5)) = some (.string ((rd_T64 ((rd_T62 l0_0 x3_2).f1) x5_4).f0)) ∧ w'.cell? ⟨(ad106.add ((x5_4).toNat * 5)).block, (ad106.add ((x5_4).toNat * 5)).off + 1, none⟩ = some (.slice A106_1 ((rd_T64 ((rd_T62 l0_0 x3_2).f1) x5_4).f1.f0).length c106_1) ∧ w'.cell? ⟨(ad106.add ((x5_4).toNat * 5)).block, (ad106.add ((x5_4).toNat * 5)).off + 2, none⟩ = some (.bool ((rd_T64 ((rd_T62 l0_0 x3_2).f1) x5_4).f2)) ∧ w'.cell? ⟨(ad106.add ((x5_4).toNat * 5)).block, (ad106.add ((x5_4).toNat * 5)).off + 3, none⟩ = some (.int .i64 ((rd_T64 ((rd_T62 l0_0 x3_2).f1) x5_4).f3)) ∧ w'.cell? ⟨(ad106.add ((x5_4).toNat * 5)).block, (ad106.add ((x5_4).toNat * 5)).off + 4, none⟩ = some (.string ((rd_T64 ((rd_T62 l0_0 x3_2).f1) x5_4).f4))) (ds := []) (bb 8 0) (by kernel_rfl) rfl rfl ⟨(blk_cell BK101.o 0).trans rfl, (blk_cell BK103.o 0).trans rfl, (blk_cell BK103.o 1).trans rfl, (mv_ HB.o hw106_0), (mv_ HB.o hw106_1), (mv_ HB.o hw106_2), (mv_ HB.o hw106_3), (mv_ HB.o hw106_4)⟩ (fun hHeld => ?_); refine with_tabW spec_GrammarOk.tab12 spec_GrammarOk.bits12 (fun HT_ HW_ => ?_)
                generalize wr.drew = w47 at BK101 BK103 HB HR106_1 hx106_0 hx106_1 hx106_2 hx106_3 hx106_4 hHeld ⊢
                refine pv_ 1 60 2 HT_.o ?_; refine pv_ 3 62 10 HT_.o ?_; refine tv_ 0 59 11 HT_.o HW_.o hHeld ?_; refine tv_ 2 61 15 HT_.o HW_.o hHeld ?_; refine pv_ 4 63 31 HT_.o ?_; refine tv_ 5 64 63 HT_.o HW_.o hHeld ?_
                refine one_ (i := 6) (N := some 65) (bb 8 127) rfl rfl (one_of HT_.o (by kernel_rfl)) (by decide) (fun K hK => ?_)
                refine gs_ Tryz.func68 #[.agg #[.slice (some ad102) l0_0.length c0_0], .agg #[.string ((rd_T64 ((rd_T62 l0_0 x3_2).f1) x5_4).f0), .slice A106_1 ((rd_T64 ((rd_T62 l0_0 x3_2).f1) x5_4).f1.f0).length c106_1, .bool ((rd_T64 ((rd_T62 l0_0 x3_2).f1) x5_4).f2), .int .i64 ((rd_T64 ((rd_T62 l0_0 x3_2).f1) x5_4).f3), .string ((rd_T64 ((rd_T62 l0_0 x3_2).f1) x5_4).f4)]] ?_
                with_reducible refine (spec_l5Rule.calls k4 _ _ l0_0 ((rd_T64 ((rd_T62 l0_0 x3_2).f1) x5_4).f0) _ _ ((rd_T64 ((rd_T62 l0_0 x3_2).f1) x5_4).f1.f0) ((rd_T64 ((rd_T62 l0_0 x3_2).f1) x5_4).f2) ((rd_T64 ((rd_T62 l0_0 x3_2).f1) x5_4).f3) ((rd_T64 ((rd_T62 l0_0 x3_2).f1) x5_4).f4) false _ ?side1 ?side2 ?side3 ?side4 A39.o).mono ?_
                (case side1 => exact Kd.C_below HR0_0.o (be_ HB.o))
                (case side2 => exact HC0_0.o)
                (case side3 => exact Kd.C_below HR106_1.o (be_ HB.o))
                (case side4 => exact HC106_1.o)
                rintro e w48 ⟨rfl, hb⟩
                refine ⟨_, rfl, ?_⟩; replace BK101 := lb_ BK101 hb; replace BK103 := lb_ BK103 hb; replace HB := sb2_ HB GE101 GE103 hb
                (try clear hb)
                (try clear hb2)
                (try clear hk)
                (try clear hi)
                refine hK.out _ _ ⟨(blk_cell BK101.o 0).trans rfl, (blk_cell BK103.o 0).trans rfl, (blk_cell BK103.o 1).trans rfl, (mv_ HB.o hw106_0), (mv_ HB.o hw106_1), (mv_ HB.o hw106_2), (mv_ HB.o hw106_3), (mv_ HB.o hw106_4)⟩ (fun hHeld => ?_)
                clear hK K; refine no_ (some 65) ?_; refine pv_ 7 66 255 HT_.o ?_
                refine done_ (done_of HT_.o (by kernel_rfl)) ?_
                try go_wp2
                go_ret
                exact ⟨rt_, be2_ HB.o GE101.o GE103.o⟩
              ·rw [if_neg c38] at H
               exact absurd H (by simp)
             ·rw [if_neg c37] at H; have c37b0 := df_ c37; clear c37
              have H' := q_ H
              clear H; have hnb49 := NB103_101.o; have hnc49 := NB101_103.o; obtain ⟨hcz50_0, hcz50_1, hfz50_0, hfz50_1⟩ := d2_ BK103
              go_wp2
              go_roundg k4
              case measure => have := HJ1.o; have := HK2.o; have := HJ9.o; have := HK4.o; omega
              case rel => exact ⟨(wrap64 (x3_2 + 1)), rs_, H', ⟨by have := HJ1.o; have := HK2.o; have := HJ9.o; have := HK4.o; omega⟩, ⟨bk_ BK101.o⟩, ⟨be2_ HB.o GE101.o GE103.o⟩⟩
       ·rw [if_neg c9] at H
        exact absurd H (by simp)
      ·rw [if_neg c8] at H; have c8b0 := df_ c8; clear c8; obtain rfl := Option.some.inj H; obtain ⟨hcz51_0, hfz51_0⟩ := d1_ BK101
       go_wp2
       go_ret
       exact ⟨rt_, be1_ HB.o GE101.o⟩
end Go.Proofs.YtijmhelacmjggaaGreat.P
namespace Go.Proofs.YtijmhelacmjggaaGreat.P
open Go.RowKit Go.Proofs.YtijmhelacmjggaaGreatW.PrintWords Go.Proofs.YtijmhelacmjggaaGreatW.PrintLast Go.Proofs.YtijmhelacmjggaaGreatEv
set_option linter.unusedVariables false
set_option linter.unusedSimpArgs false
def okB (i : Nat) (b : Int) : Bool := decide (97 ≤ b ∧ b ≤ 122) || (decide (i ≠ 0) && decide (48 ≤ b ∧ b ≤ 57))
def okS (b : Int) : Bool := decide (97 ≤ b ∧ b ≤ 122) || decide (48 ≤ b ∧ b ≤ 57)
def nameB (s : ByteArray) : Bool := (List.range s.size).all (fun i => okB i (bt s (i : Int))) && decide (1 ≤ s.size ∧ s.size ≤ 12)
theorem all_range (n : Nat) (p : Nat → Bool) (i : Nat) (h : i < n) : ((List.range n).drop i).all p = (p i && ((List.range n).drop (i + 1)).all p) := by
  rw [all_drop (List.range n) 0 p i (by simpa using h)]
  have : (List.range n).getD i 0 = i := by
    rw [List.getD_eq_getElem?_getD, List.getElem?_eq_getElem (by simpa using h)]
    simp
  rw [this]
theorem impl_isName_ev (s : ByteArray) (hs : s.size ≤ 1048576) : Ev (fun k => impl_isName.f k s) (nameB s) := by
  unfold impl_isName.f nameB
  refine ev_congr (ev_loop s.size (fun k i => impl_isName.l0 k s (s.size : Int) (i : Nat)) (fun i => ((List.range s.size).drop i).all (fun j => okB j (bt s (j : Int))) && decide (1 ≤ s.size ∧ s.size ≤ 12)) ?_ ?_ 0 (by omega)) (by simp)
  · rw [ev_succ]
    simp only [impl_isName.l0, impl_length.f, impl_within_eq, Option.bind_some, ev_ite]
    rw [if_neg (by omega)]
    refine ev_some.2 ?_
    rw [List.drop_eq_nil_of_le (by simp)]
    simp only [List.all_nil, Bool.true_and]
    exact decide_eq_decide.2 (by omega)
  · intro i hi ih
    rw [ev_succ, all_range _ _ _ hi]
    simp only [impl_isName.l0, ev_ite]
    rw [if_pos (by omega), if_pos (by omega), if_pos (by omega), wrap_succ hi (by omega)]
    generalize bt s (i : Int) = b at *
    by_cases c : 97 ≤ b ∧ b ≤ 122
    · rw [if_pos (by omega), if_pos (by omega)]
      have : okB i b = true := by simp [okB, c]
      rw [this, Bool.true_and]
      exact ih
    · have e1 : okB i b = (decide (i ≠ 0) && decide (48 ≤ b ∧ b ≤ 57)) := by simp [okB, decide_eq_false c]
      rw [e1]
      by_cases c0 : i = 0
      · have e2 : (decide (i ≠ 0) && decide (48 ≤ b ∧ b ≤ 57)) = false := by simp [c0]
        rw [e2]
        split
        · rw [if_neg (by omega)]
          rw [if_pos (by omega)]
          exact ev_some.2 (by simp)
        · rw [if_pos (by omega)]
          exact ev_some.2 (by simp)
      · by_cases c1 : 48 ≤ b ∧ b ≤ 57
        · have e2 : (decide (i ≠ 0) && decide (48 ≤ b ∧ b ≤ 57)) = true := by simp [c0, c1]
          rw [e2, Bool.true_and]
          split
          · rw [if_neg (by omega), if_neg (by omega), if_neg (by omega), if_neg (by omega)]
            exact ih
          · rw [if_neg (by omega), if_neg (by omega), if_neg (by omega)]
            exact ih
        · have e2 : (decide (i ≠ 0) && decide (48 ≤ b ∧ b ≤ 57)) = false := by simp [decide_eq_false c1]
          rw [e2]
          repeat' split
          all_goals first | exact ev_some.2 (by simp) | (exfalso; omega)
theorem spec_l1Digit_eq (b : Int) : spec_l1Digit.f b = some (decide (48 ≤ b ∧ b ≤ 57)) := by
  unfold spec_l1Digit.f
  by_cases h : b ≥ 48 <;> simp [h]
theorem nameB_split (s : ByteArray) (h : 0 < s.size) (hd : ¬ (48 ≤ bt s 0 ∧ bt s 0 ≤ 57)) : (List.range s.size).all (fun i => okB i (bt s (i : Int))) = (List.range s.size).all (fun i => okS (bt s (i : Int))) := by
  rw [Bool.eq_iff_iff, List.all_eq_true, List.all_eq_true]
  have hb : ∀ i, okB i (bt s (i : Int)) = okS (bt s (i : Int)) := by
    intro i
    unfold okB okS
    by_cases h0 : i = 0
    · subst h0
      have e : decide (48 ≤ bt s ((0 : Nat) : Int) ∧ bt s ((0 : Nat) : Int) ≤ 57) = false := decide_eq_false hd
      rw [e]
      simp
    · simp [h0]
  constructor
  · intro h i hi
    rw [← hb]
    exact h i hi
  · intro h i hi
    rw [hb]
    exact h i hi
theorem spec_l1Name_ev (s : ByteArray) : Ev (fun k => spec_l1Name.f k s) (nameB s) := by
  unfold spec_l1Name.f
  simp only [ev_ite]
  by_cases c1 : (s.size : Int) < 1
  · rw [if_pos c1, ev_succ]
    simp only [spec_l1Name.j0, if_true]
    exact ev_some.2 (by simp [nameB]; omega)
  by_cases c2 : (s.size : Int) > 12
  · rw [if_neg c1, if_pos c2, ev_succ]
    simp only [spec_l1Name.j0, if_true]
    exact ev_some.2 (by simp [nameB]; omega)
  rw [if_neg c1, if_neg c2, if_pos (by omega)]
  simp only [spec_l1Digit_eq, Option.bind_some]
  by_cases c3 : 48 ≤ bt s 0 ∧ bt s 0 ≤ 57
  · rw [decide_eq_true c3, ev_succ]
    simp only [spec_l1Name.j0, if_true]
    refine ev_some.2 ?_
    symm
    rw [nameB, Bool.and_eq_false_iff]
    left
    rw [← List.drop_zero (l := List.range s.size), all_range _ _ 0 (by omega)]
    have : okB 0 (bt s ((0 : Nat) : Int)) = false := by
      simp only [okB]
      rw [decide_eq_false (by show ¬ (97 ≤ bt s 0 ∧ bt s 0 ≤ 122); omega)]
      simp
    rw [this, Bool.false_and]
  · rw [decide_eq_false c3, ev_succ]
    simp only [spec_l1Name.j0, Bool.false_eq_true, if_false]
    rw [nameB, nameB_split s (by omega) c3, decide_eq_true (by omega), Bool.and_true]
    refine ev_congr (ev_loop s.size (fun k i => spec_l1Name.l0 k s (i : Nat)) (fun i => ((List.range s.size).drop i).all (fun j => okS (bt s (j : Int)))) ?_ ?_ 0 (by omega)) (by simp)
    · rw [ev_succ]
      simp only [spec_l1Name.l0, ev_ite]
      rw [if_neg (by omega)]
      refine ev_some.2 ?_
      rw [List.drop_eq_nil_of_le (by simp)]
      simp
    · intro i hi ih
      rw [ev_succ, all_range _ _ _ hi]
      simp only [spec_l1Name.l0, spec_l1Digit_eq, Option.bind_some, ev_ite]
      rw [if_pos (by omega), if_pos (by omega), wrap_succ hi (by omega)]
      generalize bt s (i : Int) = b at *
      by_cases c : 48 ≤ b ∧ b ≤ 57
      · rw [if_pos (decide_eq_true c), show okS b = true by simp [okS, c], Bool.true_and]
        exact ih
      · rw [if_neg (by simpa using c)]
        by_cases c4 : b < 97
        · rw [if_pos c4, show okS b = false by simp only [okS]; rw [decide_eq_false c, decide_eq_false (by omega)]; rfl]
          exact ev_some.2 (by simp)
        · rw [if_neg c4]
          by_cases c5 : b > 122
          · rw [if_pos c5, show okS b = false by simp only [okS]; rw [decide_eq_false c, decide_eq_false (by omega)]; rfl]
            exact ev_some.2 (by simp)
          · rw [if_neg c5, show okS b = true by simp only [okS]; rw [decide_eq_true (show 97 ≤ b ∧ b ≤ 122 by omega)]; rfl, Bool.true_and]
            exact ih
theorem spec_ModeAt_ev (l : List S62) (nm : ByteArray) (hl : l.length ≤ 9223372036854775807) : Ev (fun k => spec_ModeAt.f k l nm) (modeAtP l nm) := by
  unfold spec_ModeAt.f modeAtP
  refine ev_congr (ev_loop l.length (fun k i => spec_ModeAt.l0 k nm (i : Nat) l) (fun i => idxP (named nm) (l.drop i) (i : Nat)) ?_ ?_ 0 (by omega)) (by simp)
  · rw [ev_succ]
    simp only [spec_ModeAt.l0, ev_ite]
    rw [if_neg (by omega)]
    exact ev_some.2 (by simp [idxP])
  · intro i hi ih
    rw [ev_succ]
    simp only [spec_ModeAt.l0, ev_ite]
    rw [if_pos (by omega), if_pos (by omega), wrap_succ hi (by omega), drop_cons l z62 i hi]
    have hr : l.getD i z62 = rd_T62 l i := by simp [rd_T62]
    rw [hr]
    unfold idxP named
    by_cases c : (rd_T62 l i).f0.toList = nm.toList
    · rw [if_pos c, if_pos (by simpa using c)]
      exact ev_some.2 rfl
    · rw [if_neg c, if_neg (by simpa using c)]
      exact ih
def targetB (g : List S62) (x : S64) : Bool := if x.f3 = 1 then decide (modeAtP g x.f4 ≥ 0) else if x.f3 = 2 then decide (modeAtP g x.f4 ≥ 0) else x.f4.toList == ([] : List UInt8)
def ruleB (g : List S62) (x : S64) : Bool := nameB x.f0 && (rxB x.f1.f0 && (!(rxB x.f1.f0 && nullE x.f1.f0 (x.f1.f0.length - 1)) && (decide (0 ≤ x.f3 ∧ x.f3 ≤ 3) && targetB g x)))
def smallR (x : S64) : Prop := x.f0.size ≤ 1048576 ∧ x.f1.f0.length ≤ 1048576 ∧ ∀ y ∈ x.f1.f0, y.f2.length ≤ 9223372036854775807
def smallM (m : S62) : Prop := m.f0.size ≤ 1048576 ∧ m.f1.length ≤ 1048576 ∧ ∀ x ∈ m.f1, smallR x
def smallG (g : List S62) : Prop := g.length ≤ 1048576 ∧ ∀ m ∈ g, smallM m
theorem impl_ruleOk_ev (g : List S62) (x : S64) (hx : smallR x) : Ev (fun k => impl_ruleOk.f k g x.f0 x.f1.f0 x.f2 x.f3 x.f4) (ruleB g x) := by
  have hj : ∀ b : Bool, Ev (fun k => impl_ruleOk.j0 k b g x.f0 x.f1.f0 x.f2 x.f3 x.f4) (!b && targetB g x) := by
    intro b
    rw [ev_succ]
    cases b
    · simp only [impl_ruleOk.j0, impl_Rule_hasTarget.f, impl_ModeAt.f, Bool.false_eq_true, if_false]
      unfold targetB
      by_cases c1 : x.f3 = 1
      · simp only [if_pos c1, Option.bind_some, if_true]
        exact ev_some.2 (by simp)
      · simp only [if_neg c1, Option.bind_some]
        by_cases c2 : x.f3 = 2
        · simp only [c2, beq_self_eq_true, if_true, Option.bind_some]
          exact ev_some.2 (by simp)
        · rw [if_neg (by simpa using c2), if_neg c2]
          exact ev_some.2 (by simp)
    · simp only [impl_ruleOk.j0, if_true]
      exact ev_some.2 (by simp)
  unfold impl_ruleOk.f ruleB
  rw [ev_bind (impl_isName_ev x.f0 hx.1)]
  cases nameB x.f0
  · simp only [Bool.false_eq_true, if_false]
    exact hj true
  simp only [if_true]
  rw [ev_bind (impl_RxOk_ev x.f1.f0 hx.2.1)]
  cases hr : rxB x.f1.f0
  · simp only [Bool.false_eq_true, if_false]
    exact hj true
  simp only [if_true]
  rw [ev_bind (impl_Nullable_ev x.f1.f0 hx.2.1), hr]
  cases nullE x.f1.f0 (x.f1.f0.length - 1)
  · simp only [Bool.and_false, Bool.false_eq_true, if_false, impl_within_eq, Option.bind_some]
    refine ev_congr (hj _) ?_
    simp
  · simp only [Bool.and_true, if_true]
    exact hj true
theorem spec_l5Rule_ev (g : List S62) (hg : g.length ≤ 9223372036854775807) (x : S64) (hx : smallR x) : Ev (fun k => spec_l5Rule.f k g x.f0 x.f1.f0 x.f2 x.f3 x.f4) (ruleB g x) := by
  have hj : ∀ b : Bool, Ev (fun k => spec_l5Rule.j0 k b g x.f0 x.f1.f0 x.f2 x.f3 x.f4) (!b && targetB g x) := by
    intro b
    rw [ev_succ]
    cases b
    · simp only [spec_l5Rule.j0, Bool.false_eq_true, if_false]
      unfold targetB
      by_cases c1 : x.f3 = 1
      · simp only [if_pos c1]
        rw [ev_bind (spec_ModeAt_ev g x.f4 hg)]
        exact ev_some.2 (by simp)
      · simp only [if_neg c1]
        by_cases c2 : x.f3 = 2
        · simp only [if_pos c2]
          rw [ev_bind (spec_ModeAt_ev g x.f4 hg)]
          exact ev_some.2 (by simp)
        · simp only [if_neg c2]
          exact ev_some.2 (by simp)
    · simp only [spec_l5Rule.j0, if_true]
      exact ev_some.2 (by simp)
  have hn : spec_Nullable.f x.f1.f0 = some (rxB x.f1.f0 && nullE x.f1.f0 (x.f1.f0.length - 1)) := if_pos hx.2.1
  unfold spec_l5Rule.f ruleB
  rw [ev_bind (spec_l1Name_ev x.f0)]
  cases nameB x.f0
  · simp only [Bool.false_eq_true, if_false]
    exact hj true
  simp only [if_true]
  rw [ev_bind (spec_RxOk_ev x.f1.f0 hx.2.1 hx.2.2)]
  simp only [hn]
  cases rxB x.f1.f0
  · simp only [Bool.false_eq_true, if_false]
    exact hj true
  simp only [if_true, Option.bind_some]
  cases nullE x.f1.f0 (x.f1.f0.length - 1)
  · simp only [Bool.and_false, Bool.false_eq_true, if_false, spec_l1In_eq, Option.bind_some]
    refine ev_congr (hj _) ?_
    simp
  · simp only [Bool.and_true, if_true]
    exact hj true
def modeB (g : List S62) (i : Nat) (m : S62) : Bool := nameB m.f0 && (decide (modeAtP g m.f0 = (i : Int)) && (decide (1 ≤ m.f1.length ∧ m.f1.length ≤ 40) && m.f1.all (ruleB g)))
def modesB (g : List S62) (i : Nat) : Bool := ((List.range g.length).drop i).all fun j => modeB g j (rd_T62 g (j : Int))
def grammarB (g : List S62) : Bool := decide (1 ≤ g.length ∧ g.length ≤ 12) && modesB g 0
theorem modesB_step (g : List S62) (i : Nat) (h : i < g.length) : modesB g i = (modeB g i (rd_T62 g (i : Int)) && modesB g (i + 1)) := all_range _ _ _ h
theorem modesB_end (g : List S62) : modesB g g.length = true := by
  unfold modesB
  rw [List.drop_eq_nil_of_le (by simp)]
  rfl
theorem rd_mode_mem (g : List S62) (i : Nat) (h : i < g.length) : rd_T62 g (i : Int) ∈ g := by
  unfold rd_T62
  rw [List.getD_eq_getElem?_getD, List.getElem?_eq_getElem (by simpa using h)]
  exact List.getElem_mem _
theorem rd_rule_mem (l : List S64) (i : Nat) (h : i < l.length) : rd_T64 l (i : Int) ∈ l := by
  unfold rd_T64
  rw [List.getD_eq_getElem?_getD, List.getElem?_eq_getElem (by simpa using h)]
  exact List.getElem_mem _
theorem spec_GrammarOk_l1 (g : List S62) (hg : smallG g) (i : Nat) (nm : ByteArray) (rs : List S64) (hrs : ∀ x ∈ rs, smallR x) (hl : rs.length ≤ 1048576) (R : Bool) (hi : i < g.length) (ih : Ev (fun k => spec_GrammarOk.l0 k ((i + 1 : Nat) : Int) g) R) : Ev (fun k => spec_GrammarOk.l1 k (i : Int) 0 g nm rs) (rs.all (ruleB g) && R) := by
  have hgl := hg.1
  refine ev_congr (ev_loop rs.length (fun k j => spec_GrammarOk.l1 k (i : Int) (j : Nat) g nm rs) (fun j => (rs.drop j).all (ruleB g) && R) ?_ ?_ 0 (by omega)) (by simp)
  · rw [ev_succ]
    simp only [spec_GrammarOk.l1, ev_ite]
    rw [if_neg (by omega), wrap_succ hi (by omega), List.drop_length]
    simpa using ih
  · intro j hj ihj
    rw [ev_succ, all_drop rs z64 (ruleB g) j hj]
    have hr : rs.getD j z64 = rd_T64 rs j := by simp [rd_T64]
    rw [hr]
    simp only [spec_GrammarOk.l1, ev_ite]
    rw [if_pos (by omega), if_pos (by omega), wrap_succ hj (by omega), ev_bind (spec_l5Rule_ev g (by omega) (rd_T64 rs j) (hrs _ (rd_rule_mem rs j hj)))]
    cases ruleB g (rd_T64 rs j)
    · exact ev_some.2 (by simp)
    · simp only [if_true, Bool.true_and]
      exact ihj
theorem spec_GrammarOk_ev (g : List S62) (hg : smallG g) : Ev (fun k => spec_GrammarOk.f k g) (grammarB g) := by
  have hgl := hg.1
  have h0 : Ev (fun k => spec_GrammarOk.l0 k 0 g) (modesB g 0) := by
    refine ev_loop g.length (fun k i => spec_GrammarOk.l0 k (i : Nat) g) (fun i => modesB g i) ?_ ?_ 0 (by omega)
    · rw [ev_succ, modesB_end]
      simp only [spec_GrammarOk.l0, ev_ite]
      rw [if_neg (by omega)]
      exact ev_some.2 rfl
    · intro i hi ih
      rw [ev_succ, modesB_step g i hi]
      simp only [spec_GrammarOk.l0, ev_ite]
      rw [if_pos (by omega), if_pos (by omega)]
      have hm := hg.2 _ (rd_mode_mem g i hi)
      have hj : ∀ b : Bool, Ev (fun k => spec_GrammarOk.j2 k (i : Int) b g (rd_T62 g i).f0 (rd_T62 g i).f1) (!b && ((rd_T62 g i).f1.all (ruleB g) && modesB g (i + 1))) := by
        intro b
        rw [ev_succ]
        cases b
        · simp only [spec_GrammarOk.j2, Bool.false_eq_true, if_false]
          simpa using spec_GrammarOk_l1 g hg i _ _ hm.2.2 hm.2.1 _ hi ih
        · simp only [spec_GrammarOk.j2, if_true]
          exact ev_some.2 (by simp)
      unfold modeB
      generalize rd_T62 g (i : Int) = m at *
      rw [ev_bind (spec_l1Name_ev m.f0)]
      cases nameB m.f0
      · simp only [Bool.false_eq_true, if_false, Bool.false_and]
        exact hj true
      simp only [if_true, Bool.true_and]
      rw [ev_bind (spec_ModeAt_ev g m.f0 (by omega))]
      simp only [ev_ite]
      by_cases c1 : modeAtP g m.f0 = (i : Int)
      · rw [if_pos c1, decide_eq_true c1, Bool.true_and]
        by_cases c2 : (m.f1.length : Int) < 1
        · rw [if_pos c2, decide_eq_false (by omega)]
          exact hj true
        · rw [if_neg c2]
          refine ev_congr (hj _) ?_
          by_cases c3 : (m.f1.length : Int) > 40
          · rw [decide_eq_true c3, decide_eq_false (by omega)]
            rfl
          · rw [decide_eq_false c3, decide_eq_true (by omega)]
            rfl
      · rw [if_neg c1, decide_eq_false c1]
        exact hj true
  have hj : ∀ b : Bool, Ev (fun k => spec_GrammarOk.j0 k b g) (!b && modesB g 0) := by
    intro b
    rw [ev_succ]
    cases b
    · simp only [spec_GrammarOk.j0, Bool.false_eq_true, if_false]
      simpa using h0
    · simp only [spec_GrammarOk.j0, if_true]
      exact ev_some.2 (by simp)
  unfold spec_GrammarOk.f grammarB
  simp only [ev_ite]
  by_cases c1 : (g.length : Int) < 1
  · rw [if_pos c1, decide_eq_false (by omega)]
    exact hj true
  · rw [if_neg c1]
    refine ev_congr (hj _) ?_
    by_cases c2 : (g.length : Int) > 12
    · rw [decide_eq_true c2, decide_eq_false (by omega)]
      rfl
    · rw [decide_eq_false c2, decide_eq_true (by omega)]
      rfl
end Go.Proofs.YtijmhelacmjggaaGreat.P
namespace Go.Proofs.YtijmhelacmjggaaGreat.P
open Go.RowKit Go.Proofs.YtijmhelacmjggaaGreatW.PrintWords Go.Proofs.YtijmhelacmjggaaGreatW.PrintLast Go.Proofs.YtijmhelacmjggaaGreatW.PrintMore
attribute [local go_sem] max2_int min2_int max_two min_two max_three min_three max_four min_four
set_option linter.unusedVariables false
set_option linter.unusedSimpArgs false
/-! ### impl_Mode_57: function 57 -/
def impl_Mode_57.f (l0 : List (S62)) : Option (Int) := some (l0.length : Int)
theorem impl_Mode_57.calls (A0 : Option Addr) (c0 : Nat) (l0 : List (S62)) (r : Int) (w : World) (hr0 : Kd.C k62 w A0 l0.length l0) (hc0 : l0.length ≤ c0) (h : impl_Mode_57.f l0 = some r) :
  Calls Tryz.prog 57 #[.slice A0 l0.length c0] w fun e w' => e = .returned (.int .i64 r) ∧ Drawn0 w w' := by
 have HR0 := q_ hr0; have HC0 := q_ hc0; clear hr0 hc0
 have H : (some (l0.length : Int)) = some r := h
 clear h; obtain rfl := Option.some.inj H
 go_enter Tryz.func57, Tryz.ntmps57
 go_wp2
 go_ret
 exact ⟨by first | rfl | (simp; done) | (simp [*]; done), by repeat (first | exact Drawn0.refl _ | apply Drawn0.step)⟩
/-! ### impl_Rule_71: function 71 -/
def impl_Rule_71.f (l0 : List (S64)) : Option (Int) := some (l0.length : Int)
theorem impl_Rule_71.calls (A0 : Option Addr) (c0 : Nat) (l0 : List (S64)) (r : Int) (w : World) (hr0 : Kd.C k64 w A0 l0.length l0) (hc0 : l0.length ≤ c0) (h : impl_Rule_71.f l0 = some r) :
  Calls Tryz.prog 71 #[.slice A0 l0.length c0] w fun e w' => e = .returned (.int .i64 r) ∧ Drawn0 w w' := by
 have HR0 := q_ hr0; have HC0 := q_ hc0; clear hr0 hc0
 have H : (some (l0.length : Int)) = some r := h
 clear h; obtain rfl := Option.some.inj H
 go_enter Tryz.func71, Tryz.ntmps71
 go_wp2
 go_ret
 exact ⟨by first | rfl | (simp; done) | (simp [*]; done), by repeat (first | exact Drawn0.refl _ | apply Drawn0.step)⟩
end Go.Proofs.YtijmhelacmjggaaGreat.P
namespace Go.Proofs.YtijmhelacmjggaaGreat.P
open Go.RowKit Go.Shelf Go.Proofs.YtijmhelacmjggaaGreatW.PrintWords Go.Proofs.YtijmhelacmjggaaGreatW.PrintLast Go.Proofs.YtijmhelacmjggaaGreatW.PrintMore Go.Proofs.YtijmhelacmjggaaGreatEv
set_option linter.unusedVariables false
set_option linter.unusedSimpArgs false
theorem GrammarOk_1_calls (g : List S62) (x : S64) (A0 A1 : Option Addr) (c0 c1 B : Nat) (W : World) (hx : smallR x) (hB : W.heap[B]? = some (.cells #[.slice A0 g.length c0] 31)) (hr0 : Kd.C k62 W A0 g.length g) (hc0 : g.length ≤ c0) (hr1 : Kd.C k121 W A1 x.f1.f0.length x.f1.f0) (hc1 : x.f1.f0.length ≤ c1) :
    Calls Tryz.prog 73 (#[.agg #[.string x.f0, .slice A1 x.f1.f0.length c1, .bool x.f2, .int .i64 x.f3, .string x.f4]] ++ #[.pointer (some ⟨B, 0, none⟩)]) W fun e w' => e = .returned (.bool (!ruleB g x)) ∧ Below W.heap.size W w' := by
  obtain ⟨k, hk⟩ := ev_get (impl_ruleOk_ev g x hx)
  generalize ruleB g x = b at *
  have HK := q_ hk
  have hcell : W.cell? ⟨B, 0, none⟩ = some (.slice A0 g.length c0) := (blk_cell hB 0).trans rfl
  have hlt := blk_lt hB
  have hc2 : ∀ o, (W.alloc o).cell? ⟨B, 0, none⟩ = some (.slice A0 g.length c0) := fun o => ((below_alloc (Below.refl _ _) o : Below W.heap.size W _).cell hlt).trans hcell
  have hne : (B == W.heap.size) = false := beq_eq_false_iff_ne.mpr (by omega)
  have HB := q_ (below_alloc (Below.refl W.heap.size W) (.cells #[.string x.f0, .slice A1 x.f1.f0.length c1, .bool x.f2, .int .i64 x.f3, .string x.f4] 64))
  have HR0 := q_ (Kd.C_below hr0 HB.o)
  have HR1 := q_ (Kd.C_below hr1 HB.o)
  have HC0 := q_ hc0
  have HC1 := q_ hc1
  clear hk hr0 hr1 hc0 hc1 hx hB
  show Calls Tryz.prog _ #[.agg #[.string x.f0, .slice A1 x.f1.f0.length c1, .bool x.f2, .int .i64 x.f3, .string x.f4], .pointer (some ⟨B, 0, none⟩)] W _
  go_enter Tryz.func73, Tryz.ntmps73
  go_wp2_with (go_at_call 74; refine (impl_ruleOk.calls k A0 c0 g x.f0 A1 c1 x.f1.f0 x.f2 x.f3 x.f4 b _ HR0.o HC0.o HR1.o HC1.o HK.o).mono ?_; rintro e w' ⟨rfl, hb⟩)
  go_ret
  exact ⟨rfl, below_then HB.o HB.o.size hb⟩
theorem any_not_all {α : Type} (l : List α) (p : α → Bool) : (l.any fun x => !p x) = !l.all p := by
  induction l with
  | nil => rfl
  | cons a r ih => simp [ih, Bool.not_and]
theorem rules_calls (l0 : List S62) (rs : List S64) (A0 A1 : Option Addr) (c0 c1 g : Nat) (w W : World) (hrs : ∀ x ∈ rs, smallR x) (hr0 : Kd.C k62 w A0 l0.length l0) (hc0 : l0.length ≤ c0) (hr1 : Kd.C k64 w A1 rs.length rs) (hB : W.heap[g]? = some (.cells #[.slice A0 l0.length c0] 31)) (hb : Below w.heap.size w W) :
    Calls Tryz.prog 72 #[.slice A1 rs.length c1, .func (.func 73) #[] #[.pointer (some ⟨g, 0, none⟩)]] W fun e w' => e = .returned (.bool (!rs.all (ruleB l0))) ∧ Below W.heap.size W w' := by
  have eg : ∀ args w, (callFunc 73 args).run Tryz.prog w = .ok (.enter 73 args) w := enters_of Tryz.func73 (by kernel_rfl) rfl
  rw [← any_not_all]
  refine ContainsFunc_Rule _ _ eg (fun x => !ruleB l0 x) A1 c1 rs W (Kd.C_below hr1 hb) ?_
  intro W2 x A2 c2 hx hb2 hr2 hc2
  exact GrammarOk_1_calls l0 x A0 A2 c0 c2 g W2 (hrs x hx) (blk_below hB hb2) (Kd.C_below (Kd.C_below hr0 hb) hb2) hc0 hr2 hc2
theorem GrammarOk_hand (A0 : Option Addr) (c0 : Nat) (l0 : List S62) (w : World) (hg : smallG l0) (hr0 : Kd.C k62 w A0 l0.length l0) (hc0 : l0.length ≤ c0) :
    Calls Tryz.prog 42 #[.agg #[.slice A0 l0.length c0]] w fun e w' => e = .returned (.bool (grammarB l0)) ∧ Below w.heap.size w w' := by
  have HR := q_ hr0
  have HC := q_ hc0
  have HG := q_ hg
  have hn := hr0.2.1
  have hg1 := hg.1
  clear hr0 hc0 hg
  have HB := q_ (below_alloc (Below.refl w.heap.size w) (.cells #[.slice A0 l0.length c0] 31))
  have BK := q_ (blk_new w (.cells #[.slice A0 l0.length c0] 31))
  have HI := q_ (impl_within_eq (l0.length : Int) 1 12)
  have hgd : grammarB l0 = (decide (1 ≤ (l0.length : Int) ∧ (l0.length : Int) ≤ 12) && modesB l0 0) := by
    unfold grammarB
    congr 1
    exact decide_eq_decide.2 (by omega)
  cases hb1 : decide (1 ≤ (l0.length : Int) ∧ (l0.length : Int) ≤ 12)
  · rw [hb1] at HI hgd
    rw [hgd, Bool.false_and]
    clear hgd hb1
    go_enter Tryz.func42, Tryz.ntmps42
    go_wp2_with (first | (go_at_call 57; refine (impl_Mode_57.calls A0 c0 l0 _ _ (Kd.C_below HR.o HB.o) HC.o rfl).mono ?_; rintro e w' ⟨rfl, ⟨nd, rfl⟩⟩) | (go_at_call 56; refine (impl_within.calls _ _ _ false _ HI.o).mono ?_; rintro e w' ⟨rfl, ⟨nd2, rfl⟩⟩))
    go_ret
    exact ⟨rfl, by repeat (first | (with_reducible exact HB.o) | apply pw_below_drewN | apply below_drew1)⟩
  rw [hb1] at HI hgd
  rw [Bool.true_and] at hgd
  have HA0 := q_ hgd
  clear hgd hb1
  generalize hgB : grammarB l0 = gb at *
  clear hgB
  go_enter Tryz.func42, Tryz.ntmps42
  go_wp2_with (first | (go_at_call 57; refine (impl_Mode_57.calls A0 c0 l0 _ _ (Kd.C_below HR.o HB.o) HC.o rfl).mono ?_; rintro e w' ⟨rfl, ⟨nd, rfl⟩⟩) | (go_at_call 56; refine (impl_within.calls _ _ _ true _ HI.o).mono ?_; rintro e w' ⟨rfl, ⟨nd2, rfl⟩⟩))
  go_loopg [13] l0.length (fun gg s13 wr => ∃ kk : Nat, kk ≤ l0.length ∧ l0.length - kk ≤ gg ∧ s13 = .int .i64 kk ∧ J0 (gb = modesB l0 kk) ∧ J0 (wr.heap[w.heap.size]? = some (.cells #[.slice A0 l0.length c0] 31)) ∧ J0 (Below w.heap.size w wr))
  case atStart => exact ⟨0, Nat.zero_le _, by omega, rfl, HA0, ⟨BK.o⟩, ⟨by repeat (first | (with_reducible exact HB.o) | apply pw_below_drewN | apply below_drew1)⟩⟩
  case round =>
    clear HA0 HB BK
    obtain ⟨kk, hkk, hgg, rfl, HA, BK, HB⟩ := hrel
    by_cases hlt : kk < l0.length
    · have hltz : (kk : Int) < (l0.length : Int) := by omega
      have hk0 : (0 : Int) ≤ (kk : Int) := by omega
      obtain ⟨ad, A1, c1, e1, hx0, hx1, hl, hi⟩ := at_T62 HR.o (kk : Int) (by omega) hltz
      cases e1
      rw [Int.toNat_natCast] at hx0 hx1
      replace hx0 := mv_ HB.o hx0
      replace hx1 := mv_ HB.o hx1
      have hm := HG.o.2 _ (rd_mode_mem l0 kk hlt)
      have hs := HA.o.trans (modesB_step l0 kk hlt)
      unfold modeB at hs
      clear HA
      generalize rd_T62 l0 (kk : Int) = y at *
      have HI1 := q_ hi
      have HC1 := q_ hl
      obtain ⟨kn, hkn⟩ := ev_get (impl_isName_ev y.f0 hm.1)
      have HN := q_ hkn
      have HM := q_ hm
      have HS := q_ hs
      clear hi hl hkn hm hs
      have hcg : wr.cell? ⟨w.heap.size, 0, none⟩ = some (.slice (some ad) l0.length c0) := (blk_cell BK.o 0).trans rfl
      go_upto_region 6 with ((with_reducible refine gate_dst (N := 4) rfl ?_); refine box_event ?hg (N := 4) ?hd (cs := #[.string ⟨#[]⟩, .slice none 0 0]) (t := 62) ?hr ?_; (case hd => rfl); (case hg => rfl); (case hr => first | (go_simp; done) | (go_simp; rfl)); intro gm hgm w20 hbox hb; have n0_ := q_ (blk_below BK.o hb); have n1_ := q_ (below_step HB.o hb); have n2_ := q_ (show w.heap.size ≤ gm by rw [hgm]; exact below_size HB.o); have n3_ := q_ (show w.heap.size ≠ gm by rw [hgm]; exact Nat.ne_of_lt (blk_lt BK.o)); clear BK HB; have BK := n0_; have HB := n1_; have GE := n2_; have NE := n3_; have BKm := q_ hbox; clear n0_ n1_ n2_ n3_ hb hbox hgm; have hcz0 : w20.cell? ⟨gm, 0, none⟩ = some (.string ⟨#[]⟩) := (blk_cell BKm.o 0).trans rfl; have hcz1 : w20.cell? ⟨gm, 1, none⟩ = some (.slice none 0 0) := (blk_cell BKm.o 1).trans rfl; have hfz0 := blk_frozen BKm.o 0; have hfz1 := blk_frozen BKm.o 1)
      (try simp only [Act.put, List.setIfInBounds_toArray, List.set_cons_zero, List.set_cons_succ])
      have BM2 : J0 (((w20.setCell ⟨gm, 0, none⟩ (.string y.f0)).setCell ⟨gm, 1, none⟩ (.slice A1 y.f1.length c1)).heap[gm]? = some (.cells #[.string y.f0, .slice A1 y.f1.length c1] 62)) := ⟨blk_put (blk_put BKm.o 0 _ rfl) 1 _ rfl⟩
      have BK2 : J0 (((w20.setCell ⟨gm, 0, none⟩ (.string y.f0)).setCell ⟨gm, 1, none⟩ (.slice A1 y.f1.length c1)).heap[w.heap.size]? = some (.cells #[.slice (some ad) l0.length c0] 31)) := ⟨blk_far (blk_far BK.o NE.o _) NE.o _⟩
      have HB2 : J0 (Below w.heap.size w ((w20.setCell ⟨gm, 0, none⟩ (.string y.f0)).setCell ⟨gm, 1, none⟩ (.slice A1 y.f1.length c1))) := ⟨below_set (below_set HB.o GE.o) GE.o⟩
      clear BKm BK HB hcz0 hcz1 hfz0 hfz1 hx0 hx1 hcg
      generalize (w20.setCell ⟨gm, 0, none⟩ (.string y.f0)).setCell ⟨gm, 1, none⟩ (.slice A1 y.f1.length c1) = w3 at *
      have hc0m : w3.cell? ⟨gm, 0, none⟩ = some (.string y.f0) := (blk_cell BM2.o 0).trans rfl
      have hc1m : w3.cell? ⟨gm, 1, none⟩ = some (.slice A1 y.f1.length c1) := (blk_cell BM2.o 1).trans rfl
      have hcg : w3.cell? ⟨w.heap.size, 0, none⟩ = some (.slice (some ad) l0.length c0) := (blk_cell BK2.o 0).trans rfl
      cases hq1 : nameB y.f0
      · rw [hq1] at HN HS
        have hs2 : J0 (gb = false) := ⟨by rw [HS.o]; rfl⟩
        clear HS hq1
        go_wp2_with (go_at_call 69; refine (impl_isName.calls kn y.f0 false _ HN.o).mono ?_; rintro e w' ⟨rfl, ⟨nd3, rfl⟩⟩)
        go_ret
        exact ⟨by (rw [hs2.o]; try rfl), by repeat (first | (with_reducible exact HB2.o) | apply pw_below_drewN | apply below_drew1)⟩
      rw [hq1] at HN HS
      simp only [Bool.true_and] at HS
      clear hq1
      have hma : ∀ nd : Nat, Calls Tryz.prog 70 #[.agg #[.slice (some ad) l0.length c0], .string y.f0] (w3.drewN nd) fun e w' => e = .returned (.int .i64 (modeAtP l0 y.f0)) ∧ Below (w3.drewN nd).heap.size (w3.drewN nd) w' := fun nd => impl_ModeAt.calls (some ad) c0 l0 y.f0 _ _ (Kd.C_below HR.o (pw_below_drewN HB2.o nd)) HC.o rfl
      have HMA := Lib.hid hma
      clear hma
      generalize modeAtP l0 y.f0 = mm at *
      by_cases hq2 : mm = (kk : Int)
      · subst hq2
        have hne0 : ((kk : Int) != (kk : Int)) = false := by simp
        have HW := q_ (impl_within_eq (y.f1.length : Int) 1 40)
        have hd : decide (1 ≤ y.f1.length ∧ y.f1.length ≤ 40) = decide (1 ≤ (y.f1.length : Int) ∧ (y.f1.length : Int) ≤ 40) := decide_eq_decide.2 (by omega)
        rw [hd] at HS
        clear hd
        cases hq3 : decide (1 ≤ (y.f1.length : Int) ∧ (y.f1.length : Int) ≤ 40)
        · rw [hq3] at HS HW
          have hs2 : J0 (gb = false) := ⟨by rw [HS.o]; simp⟩
          clear HS hq3
          go_wp2_with (first | (go_at_call 69; refine (impl_isName.calls kn y.f0 true _ HN.o).mono ?_; rintro e w' ⟨rfl, ⟨nd3, rfl⟩⟩) | (go_at_call 70; refine (HMA.out nd3).mono ?_; rintro e w4 ⟨rfl, hb⟩; have HB4 := q_ (below_step (pw_below_drewN HB2.o nd3) hb); have hc4 : w4.cell? ⟨gm, 1, none⟩ = some (.slice A1 y.f1.length c1) := (blk_cell (blk_below (blk_drewN BM2.o nd3) hb) 1).trans rfl; clear hb) | (go_at_call 71; refine (impl_Rule_71.calls A1 c1 y.f1 _ _ (Kd.C_below HI1.o HB4.o) HC1.o rfl).mono ?_; rintro e w' ⟨rfl, ⟨nd4, rfl⟩⟩) | (go_at_call 56; refine (impl_within.calls _ _ _ false _ HW.o).mono ?_; rintro e w' ⟨rfl, ⟨nd5, rfl⟩⟩))
          go_ret
          exact ⟨by (rw [hs2.o]; try rfl), by repeat (first | (with_reducible exact HB4.o) | apply pw_below_drewN | apply below_drew1)⟩
        rw [hq3] at HS HW
        clear hq3
        have hs0 : J0 (gb = (y.f1.all (ruleB l0) && modesB l0 (kk + 1))) := ⟨by rw [HS.o]; simp⟩
        clear HS
        have hca : ∀ W : World, W.heap[w.heap.size]? = some (.cells #[.slice (some ad) l0.length c0] 31) → Below w.heap.size w W → Calls Tryz.prog 72 #[.slice A1 y.f1.length c1, .func (.func 73) #[] #[.pointer (some ⟨w.heap.size, 0, none⟩)]] W fun e w' => e = .returned (.bool (!y.f1.all (ruleB l0))) ∧ Below W.heap.size W w' := fun W h1 h2 => rules_calls l0 y.f1 (some ad) A1 c0 c1 _ w W HM.o.2.2 HR.o HC.o HI1.o h1 h2
        have HCA := Lib.hid hca
        clear hca
        cases hq4 : y.f1.all (ruleB l0)
        · rw [hq4] at hs0 HCA
          have hs2 : J0 (gb = false) := ⟨by rw [hs0.o]; rfl⟩
          clear hs0 hq4
          go_wp2_with (first | (go_at_call 69; refine (impl_isName.calls kn y.f0 true _ HN.o).mono ?_; rintro e w' ⟨rfl, ⟨nd3, rfl⟩⟩) | (go_at_call 70; refine (HMA.out nd3).mono ?_; rintro e w4 ⟨rfl, hb⟩; have HB4 := q_ (below_step (pw_below_drewN HB2.o nd3) hb); have BK4 := q_ (blk_below (blk_drewN BK2.o nd3) hb); have hc4 : w4.cell? ⟨gm, 1, none⟩ = some (.slice A1 y.f1.length c1) := (blk_cell (blk_below (blk_drewN BM2.o nd3) hb) 1).trans rfl; clear hb) | (go_at_call 71; refine (impl_Rule_71.calls A1 c1 y.f1 _ _ (Kd.C_below HI1.o HB4.o) HC1.o rfl).mono ?_; rintro e w' ⟨rfl, ⟨nd4, rfl⟩⟩) | (go_at_call 56; refine (impl_within.calls _ _ _ true _ HW.o).mono ?_; rintro e w' ⟨rfl, ⟨nd5, rfl⟩⟩) | (go_at_call 72; refine (HCA.out _ (blk_drewN BK4.o _) (pw_below_drewN HB4.o _)).mono ?_; rintro e w5 ⟨rfl, hb⟩; have HB5 := q_ (below_step (pw_below_drewN HB4.o _) hb); clear hb))
          go_ret
          exact ⟨by (rw [hs2.o]; try rfl), by repeat (first | (with_reducible exact HB5.o) | apply pw_below_drewN | apply below_drew1)⟩
        · rw [hq4] at hs0 HCA
          have hs2 : J0 (gb = modesB l0 (kk + 1)) := ⟨by rw [hs0.o]; rfl⟩
          clear hs0 hq4
          go_wp2_with (first | (go_at_call 69; refine (impl_isName.calls kn y.f0 true _ HN.o).mono ?_; rintro e w' ⟨rfl, ⟨nd3, rfl⟩⟩) | (go_at_call 70; refine (HMA.out nd3).mono ?_; rintro e w4 ⟨rfl, hb⟩; have HB4 := q_ (below_step (pw_below_drewN HB2.o nd3) hb); have BK4 := q_ (blk_below (blk_drewN BK2.o nd3) hb); have hc4 : w4.cell? ⟨gm, 1, none⟩ = some (.slice A1 y.f1.length c1) := (blk_cell (blk_below (blk_drewN BM2.o nd3) hb) 1).trans rfl; clear hb) | (go_at_call 71; refine (impl_Rule_71.calls A1 c1 y.f1 _ _ (Kd.C_below HI1.o HB4.o) HC1.o rfl).mono ?_; rintro e w' ⟨rfl, ⟨nd4, rfl⟩⟩) | (go_at_call 56; refine (impl_within.calls _ _ _ true _ HW.o).mono ?_; rintro e w' ⟨rfl, ⟨nd5, rfl⟩⟩) | (go_at_call 72; refine (HCA.out _ (blk_drewN BK4.o _) (pw_below_drewN HB4.o _)).mono ?_; rintro e w5 ⟨rfl, hb⟩; have BK5 := q_ (blk_below (blk_drewN BK4.o _) hb); have HB5 := q_ (below_step (pw_below_drewN HB4.o _) hb); clear hb))
          go_roundg (l0.length - (kk + 1))
          case measure => omega
          case rel => exact ⟨kk + 1, by omega, by omega, by go_num, hs2, ⟨BK5.o⟩, ⟨HB5.o⟩⟩
      · have hne1 : (mm != (kk : Int)) = true := by simpa using hq2
        have hs2 : J0 (gb = false) := ⟨by rw [HS.o, decide_eq_false hq2]; rfl⟩
        clear HS hq2
        go_wp2_with (first | (go_at_call 69; refine (impl_isName.calls kn y.f0 true _ HN.o).mono ?_; rintro e w' ⟨rfl, ⟨nd3, rfl⟩⟩) | (go_at_call 70; refine (HMA.out nd3).mono ?_; rintro e w4 ⟨rfl, hb⟩; have HB4 := q_ (below_step (pw_below_drewN HB2.o nd3) hb); clear hb))
        go_ret
        exact ⟨by (rw [hs2.o]; try rfl), by repeat (first | (with_reducible exact HB4.o) | apply pw_below_drewN | apply below_drew1)⟩
    · have hltz : ¬ (kk : Int) < (l0.length : Int) := by omega
      have hk : kk = l0.length := by omega
      have hs2 : J0 (gb = true) := ⟨by rw [HA.o, hk, modesB_end]⟩
      clear hk HA
      go_wp2
      go_ret
      exact ⟨by (rw [hs2.o]; try rfl), HB.o⟩
end Go.Proofs.YtijmhelacmjggaaGreat.P
namespace Go.Proofs.YtijmhelacmjggaaGreat.P
open Go.RowKit Go.Proofs.YtijmhelacmjggaaGreatW.PrintWords Go.Proofs.YtijmhelacmjggaaGreatW.PrintLast Go.Proofs.YtijmhelacmjggaaGreatW.PrintMore
attribute [local go_sem] max2_int min2_int max_two min_two max_three min_three max_four min_four
set_option linter.unusedVariables false
set_option linter.unusedSimpArgs false
/-! ### impl_GrammarOk: function 42 -/
def smallRB (x : S64) : Bool := decide (x.f0.size ≤ 1048576) && (decide (x.f1.f0.length ≤ 1048576) && x.f1.f0.all fun y => decide (y.f2.length ≤ 9223372036854775807))
def smallMB (m : S62) : Bool := decide (m.f0.size ≤ 1048576) && (decide (m.f1.length ≤ 1048576) && m.f1.all smallRB)
def smallGB (g : List (S62)) : Bool := decide (g.length ≤ 1048576) && g.all smallMB
theorem smallG_iff (g : List (S62)) : smallGB g = true ↔ smallG g := by
  simp only [smallGB, smallMB, smallRB, smallG, smallM, smallR, Bool.and_eq_true, decide_eq_true_eq, List.all_eq_true]
def impl_GrammarOk.f (l0_0 : List (S62)) : Option (Bool) := if smallGB l0_0 = true then some (grammarB l0_0) else none
theorem impl_GrammarOk.calls (A0_0 : Option Addr) (c0_0 : Nat) (l0_0 : List (S62)) (r : Bool) (w : World) (hr0_0 : Kd.C k62 w A0_0 l0_0.length l0_0) (hc0_0 : l0_0.length ≤ c0_0) (h : impl_GrammarOk.f l0_0 = some r) :
    Calls Tryz.prog 42 #[.agg #[.slice A0_0 l0_0.length c0_0]] w fun e w' => e = .returned (.bool r) ∧ Below w.heap.size w w' := by
  unfold impl_GrammarOk.f at h
  by_cases hp : smallGB l0_0 = true
  · rw [if_pos hp] at h
    obtain rfl := Option.some.inj h
    exact GrammarOk_hand A0_0 c0_0 l0_0 w ((smallG_iff l0_0).1 hp) hr0_0 hc0_0
  · rw [if_neg hp] at h
    exact absurd h (by simp)
end Go.Proofs.YtijmhelacmjggaaGreat.P
namespace Go.Proofs.YtijmhelacmjggaaGreat.P
open Go.RowKit Go.Proofs.YtijmhelacmjggaaGreatW.PrintWords Go.Proofs.YtijmhelacmjggaaGreatW.PrintLast Go.Proofs.YtijmhelacmjggaaGreatEv
set_option linter.unusedVariables false
set_option linter.unusedSimpArgs false
theorem smallR_of (x : S144) (hw : wRule x ≤ 1048576) (hg : g144 x) : smallR (cRule x) := by
  have e : x.f0.size + (x.f1.f0.length + ws wRNode x.f1.f0) + x.f4.size ≤ 1048576 := hw
  refine ⟨by show x.f0.size ≤ _; omega, by show (x.f1.f0.map cRNode).length ≤ _; rw [List.length_map]; omega, fun y hy => ?_⟩
  obtain ⟨z, hz, rfl⟩ := List.mem_map.1 (show y ∈ x.f1.f0.map cRNode from hy)
  exact (hRNode_of_g (hg.2.1.2 z hz)).2
theorem smallM_of (x : S91) (hw : wMode x ≤ 1048576) (hg : g91 x) : smallM (cMode x) := by
  have e : x.f0.size + (x.f1.length + ws wRule x.f1) ≤ 1048576 := hw
  refine ⟨by show x.f0.size ≤ _; omega, by show (x.f1.map cRule).length ≤ _; rw [List.length_map]; omega, fun y hy => ?_⟩
  obtain ⟨z, hz, rfl⟩ := List.mem_map.1 (show y ∈ x.f1.map cRule from hy)
  have := ws_mem wRule _ z hz
  exact smallR_of z (by omega) (hg.2.2 z hz)
theorem smallG_of (l : List S91) (hw : l.length + ws wMode l ≤ 1048576) (hg : ∀ y ∈ l, g91 y) : smallG (l.map cMode) := by
  refine ⟨by rw [List.length_map]; omega, fun y hy => ?_⟩
  obtain ⟨z, hz, rfl⟩ := List.mem_map.1 hy
  have := ws_mem wMode _ z hz
  exact smallM_of z (by omega) (hg z hz)
theorem hMode_all (l : List S91) (hg : ∀ y ∈ l, g91 y) : ∀ x ∈ l.map cMode, h62 x := fun y hy => by
  obtain ⟨z, hz, rfl⟩ := List.mem_map.1 hy
  exact hMode_of_g (hg z hz)
theorem impl_GrammarOk_eq (g : List S62) (h : smallG g) : impl_GrammarOk.f g = some (grammarB g) := if_pos ((smallG_iff g).2 h)
end Go.Proofs.YtijmhelacmjggaaGreat.P
namespace Go.Proofs.YtijmhelacmjggaaGreat.P
open Go.RowKit Go.Proofs.YtijmhelacmjggaaGreatW.PrintWords Go.Proofs.YtijmhelacmjggaaGreatW.PrintLast Go.Proofs.YtijmhelacmjggaaGreatW.PrintMore
attribute [local go_sem] max2_int min2_int max_two min_two max_three min_three max_four min_four
set_option linter.unusedVariables false
set_option linter.unusedSimpArgs false
/-! ### spec_l9Mode: function 24 -/
def spec_l9Mode.f (k : Nat) (l0_0 : List (S62)) (a1 : Int) : Option (Bool) := (spec_GrammarOk.f k l0_0).bind fun t102 => (if t102 = true then ((spec_l1In.f a1 0 (wrap64 ((l0_0.length : Int) - 1))).bind fun t103 => (some t103)) else (some false))
theorem spec_l9Mode.calls (k : Nat) (A0_0 : Option Addr) (c0_0 : Nat) (l0_0 : List (S62)) (a1 : Int) (r : Bool) (w : World) (hr0_0 : Kd.C k62 w A0_0 l0_0.length l0_0) (hc0_0 : l0_0.length ≤ c0_0) (h : spec_l9Mode.f k l0_0 a1 = some r) :
  Calls Tryz.prog 24 #[.agg #[.slice A0_0 l0_0.length c0_0], .int .i64 a1] w fun e w' => e = .returned (.bool r) ∧ Below w.heap.size w w' := by
 have hu31 := Tryz.underlying31; have HR0_0 := q_ hr0_0; have HC0_0 := q_ hc0_0; clear hr0_0 hc0_0; have HB := q_ (Below.refl w.heap.size w)
 have H : ((spec_GrammarOk.f k l0_0).bind fun t102 => (if t102 = true then ((spec_l1In.f a1 0 (wrap64 ((l0_0.length : Int) - 1))).bind fun t103 => (some t103)) else (some false))) = some r := h
 clear h; obtain ⟨t102, A3, H⟩ := ob_ H
 by_cases c4 : t102 = true
 ·subst c4; rw [if_pos rfl] at H; obtain ⟨t103, A5, H⟩ := ob_ H; obtain rfl := Option.some.inj H
  go_enter Tryz.func24, Tryz.ntmps24
  go_wp2_with (first | ((with_reducible refine gate_dst (N := 2) rfl ?_); (try (refine gate_guard (by rfl) ?_; dsimp only)); refine bx_ 2 #[.slice A0_0 l0_0.length c0_0] 31 ?_; intro gb101 hg w6 hbox hb; have BK101 := q_ (hbox); have GE101 := ge_ hg HB; replace HB := sb_ HB hb; clear hb hbox hg; obtain ⟨hcz7_0, hfz7_0⟩ := d1_ BK101) | ((with_reducible refine gate_callee (f := 36) rfl ?_); refine gl_ (some 6) rfl rfl Tryz.func36 #[.agg #[.slice A0_0 l0_0.length c0_0]] ?_; (with_reducible refine (spec_GrammarOk.calls k _ _ l0_0 true _ ?side1 ?side2 A3.o).mono ?_); (case side1 => exact Kd.C_below HR0_0.o (be_ HB.o)); (case side2 => exact HC0_0.o); rintro e w8 ⟨rfl, hb⟩; refine ⟨_, rfl, ?_⟩; replace BK101 := lb_ BK101 hb; replace HB := sb1_ HB GE101 hb; (try clear hb); obtain ⟨hcz9_0, hfz9_0⟩ := d1_ BK101) | (go_at_call 51; (with_reducible refine (spec_l1In.calls a1 0 (wrap64 ((l0_0.length : Int) - 1)) t103 _ A5.o).mono ?_); rintro e w' ⟨rfl, ⟨nd, rfl⟩⟩))
  go_ret
  exact ⟨rt_, be1_ HB.o GE101.o⟩
 ·replace c4 := Bool.eq_false_iff.mpr c4; subst c4; rw [if_neg nft_] at H; obtain rfl := Option.some.inj H
  go_enter Tryz.func24, Tryz.ntmps24
  go_wp2_with (first | ((with_reducible refine gate_dst (N := 2) rfl ?_); (try (refine gate_guard (by rfl) ?_; dsimp only)); refine bx_ 2 #[.slice A0_0 l0_0.length c0_0] 31 ?_; intro gb101 hg w10 hbox hb; have BK101 := q_ (hbox); have GE101 := ge_ hg HB; replace HB := sb_ HB hb; clear hb hbox hg; obtain ⟨hcz11_0, hfz11_0⟩ := d1_ BK101) | ((with_reducible refine gate_callee (f := 36) rfl ?_); refine gl_ (some 6) rfl rfl Tryz.func36 #[.agg #[.slice A0_0 l0_0.length c0_0]] ?_; (with_reducible refine (spec_GrammarOk.calls k _ _ l0_0 false _ ?side1 ?side2 A3.o).mono ?_); (case side1 => exact Kd.C_below HR0_0.o (be_ HB.o)); (case side2 => exact HC0_0.o); rintro e w12 ⟨rfl, hb⟩; refine ⟨_, rfl, ?_⟩; replace BK101 := lb_ BK101 hb; replace HB := sb1_ HB GE101 hb; (try clear hb)))
  go_ret
  exact ⟨rt_, be1_ HB.o GE101.o⟩
/-! ### spec_NameOf: function 38 -/
def spec_NameOf.j0 : Nat → Bool → List (S62) → Int → Int → Int → Int → Int → Int → Option (ByteArray)
 | 0, _, _, _, _, _, _, _, _ => none
 | k + 1, x24, x102000, x103000, x103001, x103002, x103003, x103004, x103005 => if x24 = true then (some (⟨#[]⟩ : ByteArray)) else (if x103001 < 0 then (some (⟨#[101, 114, 114, 111, 114]⟩ : ByteArray)) else (if 0 ≤ x103000 then (if x103000 < (x102000.length : Int) then (if 0 ≤ x103001 then (if x103001 < (((rd_T62 x102000 x103000).f1).length : Int) then (some ((rd_T64 ((rd_T62 x102000 x103000).f1) x103001).f0)) else (none)) else (none)) else (none)) else (none)))
def spec_NameOf.f (k : Nat) (l0_0 : List (S62)) (a1_0 : Int) (a1_1 : Int) (a1_2 : Int) (a1_3 : Int) (a1_4 : Int) (a1_5 : Int) : Option (ByteArray) := (spec_l9Mode.f k l0_0 a1_0).bind fun t103 => (if t103 = true then (if 0 ≤ a1_0 then (if a1_0 < (l0_0.length : Int) then ((spec_l1In.f a1_1 (-1) (wrap64 ((((rd_T62 l0_0 a1_0).f1).length : Int) - 1))).bind fun t105 => (spec_NameOf.j0 k (!t105) l0_0 a1_0 a1_1 a1_2 a1_3 a1_4 a1_5)) else (none)) else (none)) else (spec_NameOf.j0 k true l0_0 a1_0 a1_1 a1_2 a1_3 a1_4 a1_5))
def spec_NameOf.T1 : Bool × List (List Nat × List Nat) := (true, [([], []), ([], []), ([1], [1]), ([0, 2], [0, 2]), ([3], [3]), ([4, 3], [4]), ([5], [5]), ([6, 5], [5, 6]), ([5], [5]), ([8, 5], [5, 8]), ([5], [5]), ([10, 5], [5, 10]), ([9, 11, 5], [5, 9, 11]), ([12, 5], [5, 12]), ([13, 5], [5, 13]), ([14, 5], [5, 14]), ([15, 5], [5, 15]), ([7, 16, 5, 5], [5, 7, 16]), ([17, 5], [5, 17]), ([5, 18], [5, 18])])
def spec_NameOf.B1 : List Nat := [0, 0, 2, 7, 15, 31, 63, 127, 63, 319, 63, 1087, 3903, 7999, 16191, 32575, 65343, 131071, 262143, 524287]
theorem spec_NameOf.tab1 : rtab .any (opsOf Tryz.f38 1) = spec_NameOf.T1 := by kernel_rfl
theorem spec_NameOf.bits1 : waitsOk spec_NameOf.T1.2 spec_NameOf.B1 = true := by kernel_rfl
def spec_NameOf.T5 : Bool × List (List Nat × List Nat) := (true, [([], []), ([0], [0]), ([], []), ([2], [2]), ([1, 3], [1, 3]), ([4], [4]), ([5], [5]), ([], []), ([7], [7]), ([6, 8], [6, 8]), ([9], [9]), ([10], [10]), ([11, 0, 1, 2, 3, 4, 5, 6, 7, 8, 9, 10, 11], [11])])
def spec_NameOf.B5 : List Nat := [0, 1, 0, 4, 15, 31, 63, 0, 128, 511, 1023, 2047, 4095]
theorem spec_NameOf.tab5 : rtab .any (opsOf Tryz.f38 5) = spec_NameOf.T5 := by kernel_rfl
theorem spec_NameOf.bits5 : waitsOk spec_NameOf.T5.2 spec_NameOf.B5 = true := by kernel_rfl
theorem spec_NameOf.calls (k : Nat) (A0_0 : Option Addr) (c0_0 : Nat) (l0_0 : List (S62)) (a1_0 : Int) (a1_1 : Int) (a1_2 : Int) (a1_3 : Int) (a1_4 : Int) (a1_5 : Int) (r : ByteArray) (w : World) (hr0_0 : Kd.C k62 w A0_0 l0_0.length l0_0) (hc0_0 : l0_0.length ≤ c0_0) (h : spec_NameOf.f k l0_0 a1_0 a1_1 a1_2 a1_3 a1_4 a1_5 = some r) :
  Calls Tryz.prog 38 #[.agg #[.slice A0_0 l0_0.length c0_0], .agg #[.int .i64 a1_0, .int .i64 a1_1, .int .i64 a1_2, .int .i64 a1_3, .int .i64 a1_4, .int .i64 a1_5]] w fun e w' => e = .returned (.string r) ∧ Below w.heap.size w w' := by
 have hu31 := Tryz.underlying31; have hu76 := Tryz.underlying76; have HR0_0 := q_ hr0_0; have HC0_0 := q_ hc0_0; clear hr0_0 hc0_0; have HB := q_ (Below.refl w.heap.size w)
 have H : ((spec_l9Mode.f k l0_0 a1_0).bind fun t103 => (if t103 = true then (if 0 ≤ a1_0 then (if a1_0 < (l0_0.length : Int) then ((spec_l1In.f a1_1 (-1) (wrap64 ((((rd_T62 l0_0 a1_0).f1).length : Int) - 1))).bind fun t105 => (spec_NameOf.j0 k (!t105) l0_0 a1_0 a1_1 a1_2 a1_3 a1_4 a1_5)) else (none)) else (none)) else (spec_NameOf.j0 k true l0_0 a1_0 a1_1 a1_2 a1_3 a1_4 a1_5))) = some r := h
 clear h; have HC3 := q_ H; clear H
 go_enter Tryz.func38, Tryz.ntmps38
 go_upto_region 1 with (first | ((with_reducible refine gate_dst (N := 2) rfl ?_); (try (refine gate_guard (by rfl) ?_; dsimp only)); refine bx_ 2 #[.slice A0_0 l0_0.length c0_0] 31 ?_; intro gb101 hg w4 hbox hb; have BK101 := q_ (hbox); have GE101 := ge_ hg HB; replace HB := sb_ HB hb; clear hb hbox hg) | ((with_reducible refine gate_dst (N := 3) rfl ?_); (try (refine gate_guard (by rfl) ?_; dsimp only)); refine bx_ 3 #[.int .i64 a1_0, .int .i64 a1_1, .int .i64 a1_2, .int .i64 a1_3, .int .i64 a1_4, .int .i64 a1_5] 76 ?_; intro gb102 hg w5 hbox hb; have BK102 := q_ (hbox); have GE102 := ge1_ hg HB GE101; have NB101_102 := nl_ hg BK101; have NB102_101 := ng_ hg BK101; replace BK101 := lb_ BK101 hb; replace HB := sb1_ HB GE101 hb; clear hb hbox hg))
 (try simp only [Act.put, List.setIfInBounds_toArray, List.set_cons_zero, List.set_cons_succ])
 go_cut [24] (fun v24 wc => ∃ (kq : Nat) (x24_2 : Bool), v24 = .bool x24_2 ∧ J0 (spec_NameOf.j0 kq x24_2 l0_0 a1_0 a1_1 a1_2 a1_3 a1_4 a1_5 = some r) ∧ J0 (kq ≤ k) ∧ J0 (wc.heap[gb101]? = some (.cells #[(.slice A0_0 l0_0.length c0_0)] 31 (0, 0))) ∧ J0 (wc.heap[gb102]? = some (.cells #[.int .i64 a1_0, .int .i64 a1_1, .int .i64 a1_2, .int .i64 a1_3, .int .i64 a1_4, .int .i64 a1_5] 76 (0, 0))) ∧ J0 (Below w.heap.size w wc))
 case first =>
  have H := HC3.o; clear HC3; obtain ⟨t103, A6, H⟩ := ob_ H
  by_cases c7 : t103 = true
  ·subst c7; rw [if_pos rfl] at H
   by_cases c8 : 0 ≤ a1_0
   ·rw [if_pos c8] at H; have c8b0 := dt_ c8; clear c8
    (first | rw [c8b0] | (simp only [i64_w, i32_w]; rw [c8b0]) | skip)
    by_cases c9 : a1_0 < (l0_0.length : Int)
    ·rw [if_pos c9] at H; have c9b0 := dt_ c9; clear c9; obtain ⟨t105, A10, H⟩ := ob_ H
     have H' := q_ H
     clear H
     try go_wp2
     replace BK101 := q_ (blk_drew BK101.o); replace BK102 := q_ (blk_drew BK102.o); replace HB := q_ (below_drew1 HB.o)
     have p104 : 0 ≤ (a1_0 : Int) := of_decide_eq_true as_
     have q104 : a1_0 < (l0_0.length : Int) := of_decide_eq_true as_
     obtain ⟨ad104, A104_1, c104_1, e104, hx104_0, hx104_1, hl104_1, hi104_1⟩ := at_T62 HR0_0.o a1_0 p104 q104; have hw104_1 := hx104_1; have hw104_0 := hx104_0
     cases e104
     replace hx104_0 := mv_ HB.o hx104_0; replace hx104_1 := mv_ HB.o hx104_1; have HR104_1 := q_ hi104_1; have HC104_1 := q_ hl104_1; clear hi104_1 hl104_1; replace p104 := eq_true p104; replace q104 := eq_true q104
     refine start_ (n := 20) (S := fun w' => w'.cell? ⟨gb101, 0, none⟩ = some (.slice (some ad104) l0_0.length c0_0) ∧ w'.cell? ⟨gb102, 0, none⟩ = some (.int .i64 a1_0) ∧ w'.cell? ⟨gb102, 1, none⟩ = some (.int .i64 a1_1) ∧ w'.cell? ⟨gb102, 2, none⟩ = some (.int .i64 a1_2) ∧ w'.cell? ⟨gb102, 3, none⟩ = some (.int .i64 a1_3) ∧ w'.cell? ⟨gb102, 4, none⟩ = some (.int .i64 a1_4) ∧ w'.cell? ⟨gb102, 5, none⟩ = some (.int .i64 a1_5) ∧ w'.cell? (ad104.add ((a1_0).toNat * 2)) = some (.string ((rd_T62 l0_0 a1_0).f0)) ∧ w'.cell? ⟨(ad104.add ((a1_0).toNat * 2)).block, (ad104.add ((a1_0).toNat * 2)).off + 1, none⟩ = some (.slice A104_1 ((rd_T62 l0_0 a1_0).f1).length c104_1)) (ds := []) (bb 20 0) (by kernel_rfl) rfl rfl ⟨(blk_cell BK101.o 0).trans rfl, (blk_cell BK102.o 0).trans rfl, (blk_cell BK102.o 1).trans rfl, (blk_cell BK102.o 2).trans rfl, (blk_cell BK102.o 3).trans rfl, (blk_cell BK102.o 4).trans rfl, (blk_cell BK102.o 5).trans rfl, (mv_ HB.o hw104_0), (mv_ HB.o hw104_1)⟩ (fun hHeld => ?_); refine with_tabW spec_NameOf.tab1 spec_NameOf.bits1 (fun HT_ HW_ => ?_)
     generalize w5.drew = w11 at BK101 BK102 HB HR104_1 hx104_0 hx104_1 hHeld ⊢
     refine pv_ 1 6 2 HT_.o ?_; refine tv_ 0 5 3 HT_.o HW_.o hHeld ?_; refine tv_ 2 7 7 HT_.o HW_.o hHeld ?_
     refine one_ (i := 3) (N := some 8) (bb 20 15) rfl rfl (one_of HT_.o (by kernel_rfl)) (by decide) (fun K hK => ?_)
     refine gs_ Tryz.func24 #[.agg #[.slice (some ad104) l0_0.length c0_0], .int .i64 a1_0] ?_
     with_reducible refine (spec_l9Mode.calls k _ _ l0_0 a1_0 true _ ?side1 ?side2 A6.o).mono ?_
     (case side1 => exact Kd.C_below HR0_0.o (be_ HB.o))
     (case side2 => exact HC0_0.o)
     rintro e w12 ⟨rfl, hb⟩
     refine ⟨_, rfl, ?_⟩; replace BK101 := lb_ BK101 hb; replace BK102 := lb_ BK102 hb; replace HB := sb2_ HB GE101 GE102 hb
     (try clear hb)
     (try clear hb2)
     (try clear hk)
     (try clear hi)
     refine hK.out _ _ ⟨(blk_cell BK101.o 0).trans rfl, (blk_cell BK102.o 0).trans rfl, (blk_cell BK102.o 1).trans rfl, (blk_cell BK102.o 2).trans rfl, (blk_cell BK102.o 3).trans rfl, (blk_cell BK102.o 4).trans rfl, (blk_cell BK102.o 5).trans rfl, (mv_ HB.o hw104_0), (mv_ HB.o hw104_1)⟩ (fun hHeld => ?_)
     clear hK K; refine no_ (some 8) ?_; refine pv_ 4 9 31 HT_.o ?_; refine pv_ 5 10 63 HT_.o ?_; refine pv_ 6 11 127 HT_.o ?_; refine pv_ 8 13 383 HT_.o ?_; refine pv_ 10 15 1407 HT_.o ?_; refine tv_ 7 12 1535 HT_.o HW_.o hHeld ?_; refine tv_ 9 14 2047 HT_.o HW_.o hHeld ?_; refine tv_ 11 16 4095 HT_.o HW_.o hHeld ?_; refine pv_ 12 17 8191 HT_.o ?_; refine pv_ 13 18 16383 HT_.o ?_; refine tv_ 14 19 32767 HT_.o HW_.o hHeld ?_; refine pv_ 15 20 65535 HT_.o ?_; refine pv_ 16 21 131071 HT_.o ?_
     refine one_ (i := 17) (N := some 22) (bb 20 262143) rfl rfl (one_of HT_.o (by kernel_rfl)) (by decide) (fun K hK => ?_)
     refine gs_ Tryz.func51 #[.int .i64 a1_1, .int .i64 (-1), .int .i64 (wrap64 ((((rd_T62 l0_0 a1_0).f1).length : Int) - 1))] ?_
     with_reducible refine (spec_l1In.calls a1_1 (-1) (wrap64 ((((rd_T62 l0_0 a1_0).f1).length : Int) - 1)) t105 _ A10.o).mono ?_
     rintro e w' ⟨rfl, ⟨nd, rfl⟩⟩; refine ⟨_, rfl, ?_⟩
     refine hK.out _ _ ⟨(blk_cell BK101.o 0).trans rfl, (blk_cell BK102.o 0).trans rfl, (blk_cell BK102.o 1).trans rfl, (blk_cell BK102.o 2).trans rfl, (blk_cell BK102.o 3).trans rfl, (blk_cell BK102.o 4).trans rfl, (blk_cell BK102.o 5).trans rfl, (mv_ HB.o hw104_0), (mv_ HB.o hw104_1)⟩ (fun hHeld => ?_)
     clear hK K; refine no_ (some 22) ?_; refine pv_ 18 23 524287 HT_.o ?_; refine pv_ 19 24 1048575 HT_.o ?_
     refine done_ (done_of HT_.o (by kernel_rfl)) ?_
     try go_wp2
     go_meet
     case rel => exact ⟨_, (!t105), rs_, H', ⟨by first | omega | exact Nat.le_refl _⟩, ⟨bk_ BK101.o⟩, ⟨bk_ BK102.o⟩, ⟨be2_ HB.o GE101.o GE102.o⟩⟩
    ·rw [if_neg c9] at H
     exact absurd H (by simp)
   ·rw [if_neg c8] at H
    exact absurd H (by simp)
  ·replace c7 := Bool.eq_false_iff.mpr c7; subst c7; rw [if_neg nft_] at H
   have H' := q_ H
   clear H
   try go_wp2
   replace BK101 := q_ (blk_drew BK101.o); replace BK102 := q_ (blk_drew BK102.o); replace HB := q_ (below_drew1 HB.o)
   refine start_ (n := 20) (S := fun w' => w'.cell? ⟨gb101, 0, none⟩ = some (.slice A0_0 l0_0.length c0_0) ∧ w'.cell? ⟨gb102, 0, none⟩ = some (.int .i64 a1_0) ∧ w'.cell? ⟨gb102, 1, none⟩ = some (.int .i64 a1_1) ∧ w'.cell? ⟨gb102, 2, none⟩ = some (.int .i64 a1_2) ∧ w'.cell? ⟨gb102, 3, none⟩ = some (.int .i64 a1_3) ∧ w'.cell? ⟨gb102, 4, none⟩ = some (.int .i64 a1_4) ∧ w'.cell? ⟨gb102, 5, none⟩ = some (.int .i64 a1_5)) (ds := []) (bb 20 0) (by kernel_rfl) rfl rfl ⟨(blk_cell BK101.o 0).trans rfl, (blk_cell BK102.o 0).trans rfl, (blk_cell BK102.o 1).trans rfl, (blk_cell BK102.o 2).trans rfl, (blk_cell BK102.o 3).trans rfl, (blk_cell BK102.o 4).trans rfl, (blk_cell BK102.o 5).trans rfl⟩ (fun hHeld => ?_); refine with_tabW spec_NameOf.tab1 spec_NameOf.bits1 (fun HT_ HW_ => ?_)
   generalize w5.drew = w13 at BK101 BK102 HB hHeld ⊢
   refine pv_ 1 6 2 HT_.o ?_; refine tv_ 0 5 3 HT_.o HW_.o hHeld ?_; refine tv_ 2 7 7 HT_.o HW_.o hHeld ?_
   refine one_ (i := 3) (N := some 8) (bb 20 15) rfl rfl (one_of HT_.o (by kernel_rfl)) (by decide) (fun K hK => ?_)
   refine gs_ Tryz.func24 #[.agg #[.slice A0_0 l0_0.length c0_0], .int .i64 a1_0] ?_
   with_reducible refine (spec_l9Mode.calls k _ _ l0_0 a1_0 false _ ?side1 ?side2 A6.o).mono ?_
   (case side1 => exact Kd.C_below HR0_0.o (be_ HB.o))
   (case side2 => exact HC0_0.o)
   rintro e w14 ⟨rfl, hb⟩
   refine ⟨_, rfl, ?_⟩; replace BK101 := lb_ BK101 hb; replace BK102 := lb_ BK102 hb; replace HB := sb2_ HB GE101 GE102 hb
   (try clear hb)
   (try clear hb2)
   (try clear hk)
   (try clear hi)
   refine hK.out _ _ ⟨(blk_cell BK101.o 0).trans rfl, (blk_cell BK102.o 0).trans rfl, (blk_cell BK102.o 1).trans rfl, (blk_cell BK102.o 2).trans rfl, (blk_cell BK102.o 3).trans rfl, (blk_cell BK102.o 4).trans rfl, (blk_cell BK102.o 5).trans rfl⟩ (fun hHeld => ?_)
   clear hK K; refine no_ (some 8) ?_; refine pv_ 4 9 31 HT_.o ?_; refine pv_ 5 10 63 HT_.o ?_; refine pw_ 6 (some 11) (bb 20 127) HT_.o ?_; refine pw_ 7 (some 12) (bb 20 255) HT_.o ?_; refine pw_ 8 (some 13) (bb 20 511) HT_.o ?_; refine pw_ 9 (some 14) (bb 20 1023) HT_.o ?_; refine pw_ 10 (some 15) (bb 20 2047) HT_.o ?_; refine pw_ 11 (some 16) (bb 20 4095) HT_.o ?_; refine pw_ 12 (some 17) (bb 20 8191) HT_.o ?_; refine pw_ 13 (some 18) (bb 20 16383) HT_.o ?_; refine pw_ 14 (some 19) (bb 20 32767) HT_.o ?_; refine pw_ 15 (some 20) (bb 20 65535) HT_.o ?_; refine pw_ 16 (some 21) (bb 20 131071) HT_.o ?_; refine pw_ 17 (some 22) (bb 20 262143) HT_.o ?_; refine pw_ 18 (some 23) (bb 20 524287) HT_.o ?_; refine pv_ 19 24 1048575 HT_.o ?_
   refine done_ (done_of HT_.o (by kernel_rfl)) ?_
   try go_wp2
   go_meet
   case rel => exact ⟨_, (true), rs_, H', ⟨by first | omega | exact Nat.le_refl _⟩, ⟨bk_ BK101.o⟩, ⟨bk_ BK102.o⟩, ⟨be2_ HB.o GE101.o GE102.o⟩⟩
 case rest =>
  clear HC3; (try clear c7); (try clear c8); (try clear c8b0); (try clear c9); (try clear c9b0); (try clear hx104_0); (try clear hx104_1); (try clear p104); (try clear q104); obtain ⟨kq, x24_2, rfl, HA, HJ2, BK101, BK102, HB⟩ := hcut
  cases kq with
  | zero => exact absurd HA.o (by simp [spec_NameOf.j0])
  | succ kj2 =>
   have H := HA.o; clear HA
   simp only [spec_NameOf.j0] at H
   by_cases c15 : x24_2 = true
   ·subst c15; rw [if_pos rfl] at H; obtain rfl := Option.some.inj H
    go_wp2
    go_ret
    exact ⟨rt_, be2_ HB.o GE101.o GE102.o⟩
   ·replace c15 := Bool.eq_false_iff.mpr c15; subst c15; rw [if_neg nft_] at H
    by_cases c16 : a1_1 < 0
    ·rw [if_pos c16] at H; have c16b0 := dt_ c16; clear c16; obtain rfl := Option.some.inj H; have hnb17 := NB102_101.o; have hnc17 := NB101_102.o; obtain ⟨hcz18_0, hcz18_1, hcz18_2, hcz18_3, hcz18_4, hcz18_5, hfz18_0, hfz18_1, hfz18_2, hfz18_3, hfz18_4, hfz18_5⟩ := d6_ BK102
     go_wp2
     go_ret
     exact ⟨rt_, be2_ HB.o GE101.o GE102.o⟩
    ·rw [if_neg c16] at H; have c16b0 := df_ c16; clear c16
     by_cases c19 : 0 ≤ a1_0
     ·rw [if_pos c19] at H; have c19b0 := dt_ c19; clear c19
      by_cases c20 : a1_0 < (l0_0.length : Int)
      ·rw [if_pos c20] at H; have c20b0 := dt_ c20; clear c20
       by_cases c21 : 0 ≤ a1_1
       ·rw [if_pos c21] at H; have c21b0 := dt_ c21; clear c21
        by_cases c22 : a1_1 < (((rd_T62 l0_0 a1_0).f1).length : Int)
        ·rw [if_pos c22] at H; have c22b0 := dt_ c22; clear c22; obtain rfl := Option.some.inj H; have hnb23 := NB102_101.o; have hnc23 := NB101_102.o; obtain ⟨hcz24_0, hcz24_1, hcz24_2, hcz24_3, hcz24_4, hcz24_5, hfz24_0, hfz24_1, hfz24_2, hfz24_3, hfz24_4, hfz24_5⟩ := d6_ BK102
         try go_wp2
         replace BK101 := q_ (blk_drew BK101.o); replace BK102 := q_ (blk_drew BK102.o); replace HB := q_ (below_drew1 HB.o)
         have p106 : 0 ≤ (a1_0 : Int) := of_decide_eq_true as_
         have q106 : a1_0 < (l0_0.length : Int) := of_decide_eq_true as_
         obtain ⟨ad106, A106_1, c106_1, e106, hx106_0, hx106_1, hl106_1, hi106_1⟩ := at_T62 HR0_0.o a1_0 p106 q106; have hw106_1 := hx106_1; have hw106_0 := hx106_0
         cases e106
         replace hx106_0 := mv_ HB.o hx106_0; replace hx106_1 := mv_ HB.o hx106_1; have HR106_1 := q_ hi106_1; have HC106_1 := q_ hl106_1; clear hi106_1 hl106_1; replace p106 := eq_true p106; replace q106 := eq_true q106
         have p107 : 0 ≤ (a1_1 : Int) := of_decide_eq_true as_
         have q107 : a1_1 < (((rd_T62 l0_0 a1_0).f1).length : Int) := of_decide_eq_true as_
         obtain ⟨ad107, A107_1, c107_1, e107, hx107_0, hx107_1, hx107_2, hx107_3, hx107_4, hl107_1, hi107_1⟩ := at_T64 HR106_1.o a1_1 p107 q107; have hw107_4 := hx107_4; have hw107_3 := hx107_3; have hw107_2 := hx107_2; have hw107_1 := hx107_1; have hw107_0 := hx107_0
         cases e107
         replace hx107_0 := mv_ HB.o hx107_0; replace hx107_1 := mv_ HB.o hx107_1; replace hx107_2 := mv_ HB.o hx107_2; replace hx107_3 := mv_ HB.o hx107_3; replace hx107_4 := mv_ HB.o hx107_4; have HR107_1 := q_ hi107_1; have HC107_1 := q_ hl107_1; clear hi107_1 hl107_1; replace p107 := eq_true p107; replace q107 := eq_true q107
         refine start_ (n := 13) (S := fun w' => w'.cell? ⟨gb101, 0, none⟩ = some (.slice (some ad106) l0_0.length c0_0) ∧ w'.cell? ⟨gb102, 0, none⟩ = some (.int .i64 a1_0) ∧ w'.cell? ⟨gb102, 1, none⟩ = some (.int .i64 a1_1) ∧ w'.cell? ⟨gb102, 2, none⟩ = some (.int .i64 a1_2) ∧ w'.cell? ⟨gb102, 3, none⟩ = some (.int .i64 a1_3) ∧ w'.cell? ⟨gb102, 4, none⟩ = some (.int .i64 a1_4) ∧ w'.cell? ⟨gb102, 5, none⟩ = some (.int .i64 a1_5) ∧ w'.cell? (ad106.add ((a1_0).toNat * 2)) = some (.string ((rd_T62 l0_0 a1_0).f0)) ∧ w'.cell? ⟨(ad106.add ((a1_0).toNat * 2)).block, (ad106.add ((a1_0).toNat * 2)).off + 1, none⟩ = some (.slice (some ad107) ((rd_T62 l0_0 a1_0).f1).length c106_1) ∧ w'.cell? (ad107.add ((a1_1).toNat * 5)) = some (.string ((rd_T64 ((rd_T62 l0_0 a1_0).f1) a1_1).f0)) ∧ w'.cell? ⟨(ad107.add ((a1_1).toNat * 5)).block, (ad107.add ((a1_1).toNat * 5)).off + 1, none⟩ = some (.slice A107_1 ((rd_T64 ((rd_T62 l0_0 a1_0).f1) a1_1).f1.f0).length c107_1) ∧ w'.cell? ⟨(ad107.add ((a1_1).toNat * 5)).block, (ad107.add ((a1_1).toNat * 5)).off + 2, none⟩ = some (.bool ((rd_T64 ((rd_T62 l0_0 a1_0).f1) a1_1).f2)) ∧ w'.cell? ⟨(ad107.add ((a1_1).toNat * 5)).block, (ad107.add ((a1_1).toNat * 5)).off + 3, none⟩ = some (.int .i64 ((rd_T64 ((rd_T62 l0_0 a1_0).f1) a1_1).f3)) ∧ w'.cell? ⟨(ad107.add ((a1_1).toNat * 5)).block, (ad107.add ((a1_1).toNat * 5)).off + 4, none⟩ = some (.string ((rd_T64 ((rd_T62 l0_0 a1_0).f1) a1_1).f4))) (ds := []) (bb 13 0) (by kernel_rfl) rfl rfl ⟨(blk_cell BK101.o 0).trans rfl, (blk_cell BK102.o 0).trans rfl, (blk_cell BK102.o 1).trans rfl, (blk_cell BK102.o 2).trans rfl, (blk_cell BK102.o 3).trans rfl, (blk_cell BK102.o 4).trans rfl, (blk_cell BK102.o 5).trans rfl, (mv_ HB.o hw106_0), (mv_ HB.o hw106_1), (mv_ HB.o hw107_0), (mv_ HB.o hw107_1), (mv_ HB.o hw107_2), (mv_ HB.o hw107_3), (mv_ HB.o hw107_4)⟩ (fun hHeld => ?_); refine with_tabW spec_NameOf.tab5 spec_NameOf.bits5 (fun HT_ HW_ => ?_)
         generalize wc.drew = w25 at BK101 BK102 HB HR106_1 HR107_1 hx106_0 hx106_1 hx107_0 hx107_1 hx107_2 hx107_3 hx107_4 hHeld ⊢
         refine pv_ 0 28 1 HT_.o ?_; refine pv_ 2 30 5 HT_.o ?_; refine pv_ 7 35 133 HT_.o ?_; refine tv_ 1 29 135 HT_.o HW_.o hHeld ?_; refine tv_ 3 31 143 HT_.o HW_.o hHeld ?_; refine pv_ 4 32 159 HT_.o ?_; refine pv_ 5 33 191 HT_.o ?_; refine tv_ 6 34 255 HT_.o HW_.o hHeld ?_; refine tv_ 8 36 511 HT_.o HW_.o hHeld ?_; refine pv_ 9 37 1023 HT_.o ?_; refine pv_ 10 38 2047 HT_.o ?_; refine tv_ 11 39 4095 HT_.o HW_.o hHeld ?_; refine pv_ 12 4 8191 HT_.o ?_
         refine done_ (done_of HT_.o (by kernel_rfl)) ?_
         try go_wp2
         go_ret
         exact ⟨rt_, be2_ HB.o GE101.o GE102.o⟩
        ·rw [if_neg c22] at H
         exact absurd H (by simp)
       ·rw [if_neg c21] at H
        exact absurd H (by simp)
      ·rw [if_neg c20] at H
       exact absurd H (by simp)
     ·rw [if_neg c19] at H
      exact absurd H (by simp)
end Go.Proofs.YtijmhelacmjggaaGreat.P
namespace Go.Proofs.YtijmhelacmjggaaGreat.P
open Go.RowKit Go.Proofs.YtijmhelacmjggaaGreatW.PrintWords Go.Proofs.YtijmhelacmjggaaGreatW.PrintLast Go.Proofs.YtijmhelacmjggaaGreatEv
set_option linter.unusedVariables false
set_option linter.unusedSimpArgs false
def isModeB (g : List S62) (m : Int) : Bool := grammarB g && decide (0 ≤ m ∧ m ≤ (g.length : Int) - 1)
def nameOfB (g : List S62) (m r : Int) : ByteArray :=
  if isModeB g m = true then (if decide (-1 ≤ r ∧ r ≤ ((rd_T62 g m).f1.length : Int) - 1) = true then (if r < 0 then (⟨#[101, 114, 114, 111, 114]⟩ : ByteArray) else (rd_T64 (rd_T62 g m).f1 r).f0) else ⟨#[]⟩) else ⟨#[]⟩
theorem spec_l9Mode_ev (g : List S62) (hg : smallG g) (m : Int) : Ev (fun k => spec_l9Mode.f k g m) (isModeB g m) := by
  have hgl := hg.1
  unfold spec_l9Mode.f isModeB
  rw [ev_bind (spec_GrammarOk_ev g hg)]
  cases grammarB g
  · simp only [Bool.false_eq_true, if_false, Bool.false_and]
    exact ev_some.2 rfl
  · simp only [if_true, spec_l1In_eq, Option.bind_some, Bool.true_and]
    rw [wrap_id (x := (g.length : Int) - 1) (by omega) (by omega)]
    exact ev_some.2 rfl
theorem isMode_in {g : List S62} {m : Int} (h : isModeB g m = true) : 0 ≤ m ∧ m < (g.length : Int) := by
  unfold isModeB at h
  rw [Bool.and_eq_true, decide_eq_true_eq] at h
  omega
theorem rd_mode_mem' (g : List S62) (m : Int) (h0 : 0 ≤ m) (h1 : m < (g.length : Int)) : rd_T62 g m ∈ g := by
  have := rd_mode_mem g m.toNat (by omega)
  rw [Int.toNat_of_nonneg h0] at this
  exact this
theorem spec_NameOf_ev (g : List S62) (hg : smallG g) (a b c d e f : Int) : Ev (fun k => spec_NameOf.f k g a b c d e f) (nameOfB g a b) := by
  have hj : ∀ x : Bool, (x = false → isModeB g a = true ∧ -1 ≤ b ∧ b ≤ ((rd_T62 g a).f1.length : Int) - 1) → Ev (fun k => spec_NameOf.j0 k x g a b c d e f) (if x = true then (⟨#[]⟩ : ByteArray) else if b < 0 then (⟨#[101, 114, 114, 111, 114]⟩ : ByteArray) else (rd_T64 (rd_T62 g a).f1 b).f0) := by
    intro x hx
    rw [ev_succ]
    cases x
    · obtain ⟨h1, h2, h3⟩ := hx rfl
      have h4 := isMode_in h1
      simp only [spec_NameOf.j0, Bool.false_eq_true, if_false, ev_ite]
      by_cases hb : b < 0
      · rw [if_pos hb, if_pos hb]
        exact ev_some.2 rfl
      · rw [if_neg hb, if_neg hb, if_pos h4.1, if_pos h4.2, if_pos (by omega), if_pos (by omega)]
        exact ev_some.2 rfl
    · simp only [spec_NameOf.j0, if_true]
      exact ev_some.2 rfl
  unfold spec_NameOf.f nameOfB
  rw [ev_bind (spec_l9Mode_ev g hg a)]
  cases hm : isModeB g a
  · simp only [Bool.false_eq_true, if_false]
    exact ev_congr (hj true (by simp)) (by simp)
  · have h4 := isMode_in hm
    have hs := (hg.2 _ (rd_mode_mem' g a h4.1 h4.2)).2.1
    simp only [if_true, ev_ite, spec_l1In_eq, Option.bind_some]
    rw [if_pos h4.1, if_pos h4.2, wrap_id (x := ((rd_T62 g a).f1.length : Int) - 1) (by omega) (by omega)]
    by_cases h : -1 ≤ b ∧ b ≤ ((rd_T62 g a).f1.length : Int) - 1
    · rw [decide_eq_true h]
      exact ev_congr (hj false (fun _ => ⟨hm, h⟩)) (by simp)
    · rw [decide_eq_false h]
      exact ev_congr (hj true (by simp)) (by simp)
end Go.Proofs.YtijmhelacmjggaaGreat.P
namespace Go.Proofs.YtijmhelacmjggaaGreat.P
open Go.RowKit Go.Proofs.YtijmhelacmjggaaGreatW.PrintWords Go.Proofs.YtijmhelacmjggaaGreatW.PrintLast Go.Proofs.YtijmhelacmjggaaGreatW.PrintMore
attribute [local go_sem] max2_int min2_int max_two min_two max_three min_three max_four min_four
set_option linter.unusedVariables false
set_option linter.unusedSimpArgs false
/-! ### spec_l20At: function 39 -/
def spec_l20At.l0 : Nat → List ByteArray → ByteArray → Int → Option (Int)
 | 0, _, _, _ => none
 | k + 1, x0, x1, x5 => if x5 < (x0.length : Int) then (if 0 ≤ x5 then (if (rdOf ByteArray.empty x0 x5).toList = x1.toList then (some x5) else (spec_l20At.l0 k x0 x1 (wrap64 (x5 + 1)))) else (none)) else (some (-1))
def spec_l20At.f (k : Nat) (l0 : List ByteArray) (a1 : ByteArray) : Option (Int) := spec_l20At.l0 k l0 a1 0
theorem spec_l20At.calls (k : Nat) (A0 : Option Addr) (c0 : Nat) (l0 : List ByteArray) (a1 : ByteArray) (r : Int) (w : World) (hr0 : Kd.C Kd.string w A0 l0.length l0) (hc0 : l0.length ≤ c0) (h : spec_l20At.f k l0 a1 = some r) :
  Calls Tryz.prog 39 #[.slice A0 l0.length c0, .string a1] w fun e w' => e = .returned (.int .i64 r) ∧ Drawn0 w w' := by
 have HR0 := q_ hr0; have HC0 := q_ hc0; clear hr0 hc0
 have H : (spec_l20At.l0 k l0 a1 0) = some r := h
 clear h
 have H' := q_ H
 clear H
 go_enter Tryz.func39, Tryz.ntmps39
 go_wp2
 go_loopg [5] k (fun kq v5 w' => ∃ (x5_1 : Int), v5 = .int .i64 x5_1 ∧ J0 (spec_l20At.l0 kq l0 a1 x5_1 = some r) ∧ J0 (kq ≤ k) ∧ Drawn0 w w')
 case atStart => exact ⟨(0), rs_, H', ⟨Nat.le_refl _⟩, by repeat (first | exact Drawn0.refl _ | apply Drawn0.step)⟩
 case round =>
  clear H'
  obtain ⟨x5_1, rfl, HA, HK1, ⟨m1, rfl⟩⟩ := hrel
  cases gk with
  | zero => exact absurd HA.o (by simp [spec_l20At.l0])
  | succ k1 =>
   have H := HA.o; clear HA
   simp only [spec_l20At.l0] at H
   by_cases c3 : x5_1 < (l0.length : Int)
   ·rw [if_pos c3] at H; have c3b0 := dt_ c3; clear c3
    by_cases c4 : 0 ≤ x5_1
    ·rw [if_pos c4] at H; have c4b0 := dt_ c4; clear c4
     by_cases c5 : (rdOf ByteArray.empty l0 x5_1).toList = a1.toList
     ·rw [if_pos c5] at H
      have c5b0 : ((rdOf ByteArray.empty l0 x5_1).toList == a1.toList) = true := beq_iff_eq.mpr c5
      have c5b1 : ((rdOf ByteArray.empty l0 x5_1).toList != a1.toList) = false := bne_eq_false_iff_eq.mpr c5
      clear c5; obtain rfl := Option.some.inj H
      have p101 : 0 ≤ (x5_1 : Int) := of_decide_eq_true as_
      have q101 : x5_1 < (l0.length : Int) := of_decide_eq_true as_
      obtain ⟨ad101, e101, hx101_0⟩ := Kd.at_string HR0.o x5_1 p101 q101
      cases e101
      replace p101 := eq_true p101; replace q101 := eq_true q101
      go_wp2
      go_ret
      exact ⟨by first | rfl | (simp; done) | (simp [*]; done), by repeat (first | exact Drawn0.refl _ | apply Drawn0.step)⟩
     ·rw [if_neg c5] at H
      have c5b0 : ((rdOf ByteArray.empty l0 x5_1).toList == a1.toList) = false := beq_eq_false_iff_ne.mpr c5
      have c5b1 : ((rdOf ByteArray.empty l0 x5_1).toList != a1.toList) = true := bne_iff_ne.mpr c5
      have H' := q_ H
      clear H
      have p101 : 0 ≤ (x5_1 : Int) := of_decide_eq_true as_
      have q101 : x5_1 < (l0.length : Int) := of_decide_eq_true as_
      obtain ⟨ad101, e101, hx101_0⟩ := Kd.at_string HR0.o x5_1 p101 q101
      cases e101
      replace p101 := eq_true p101; replace q101 := eq_true q101
      go_wp2
      go_roundg k1
      case measure => have := HK1.o; omega
      case rel => exact ⟨(wrap64 (x5_1 + 1)), rs_, H', ⟨by have := HK1.o; omega⟩, by repeat (first | exact Drawn0.refl _ | apply Drawn0.step)⟩
    ·rw [if_neg c4] at H
     exact absurd H (by simp)
   ·rw [if_neg c3] at H; have c3b0 := df_ c3; clear c3; obtain rfl := Option.some.inj H
    go_wp2
    go_ret
    exact ⟨by first | rfl | (simp; done) | (simp [*]; done), by repeat (first | exact Drawn0.refl _ | apply Drawn0.step)⟩
/-! ### spec_Kinds: function 37 -/
mutual
def spec_Kinds.l0 : Nat → List ByteArray → Int → List (S62) → Option (List ByteArray)
 | 0, _, _, _ => none
 | k + 1, x3, x4, x102000 => if x4 < (x102000.length : Int) then (spec_Kinds.l1 k x3 x4 0 x102000) else (some x3)
def spec_Kinds.l1 : Nat → List ByteArray → Int → Int → List (S62) → Option (List ByteArray)
 | 0, _, _, _, _ => none
 | k + 1, x3, x4, x5, x102000 => if 0 ≤ x4 then (if x4 < (x102000.length : Int) then (if x5 < (((rd_T62 x102000 x4).f1).length : Int) then (if 0 ≤ x5 then ((spec_l20At.f k x3 ((rd_T64 ((rd_T62 x102000 x4).f1) x5).f0)).bind fun t109 => (if t109 < 0 then (if x3.length < 8796093022208 then (spec_Kinds.l1 k (x3 ++ [(rd_T64 ((rd_T62 x102000 x4).f1) x5).f0]) x4 (wrap64 (x5 + 1)) x102000) else (none)) else (spec_Kinds.l1 k x3 x4 (wrap64 (x5 + 1)) x102000))) else (none)) else (spec_Kinds.l0 k x3 (wrap64 (x4 + 1)) x102000)) else (none)) else (none)
end
def spec_Kinds.f (k : Nat) (l0_0 : List (S62)) : Option (List ByteArray) := (some (([] : List ByteArray) : List ByteArray)).bind fun y102 => ((spec_GrammarOk.f k l0_0).bind fun t105 => (if t105 = true then (spec_Kinds.l0 k y102 0 l0_0) else (some y102)))
theorem spec_Kinds.calls (k : Nat) (A0_0 : Option Addr) (c0_0 : Nat) (l0_0 : List (S62)) (r : List ByteArray) (w : World) (hr0_0 : Kd.C k62 w A0_0 l0_0.length l0_0) (hc0_0 : l0_0.length ≤ c0_0) (h : spec_Kinds.f k l0_0 = some r) :
  Calls Tryz.prog 37 #[.agg #[.slice A0_0 l0_0.length c0_0]] w fun e w' => ∃ v0_ : Value, e = .returned (v0_) ∧ Kd.R Kd.string 9 w' w.heap.size (fun _ => True) v0_ r ∧ Below w.heap.size w w' := by
 have hu31 := Tryz.underlying31; have HR0_0 := q_ hr0_0; have HC0_0 := q_ hc0_0; clear hr0_0 hc0_0; have HB := q_ (Below.refl w.heap.size w)
 have H : ((some (([] : List ByteArray) : List ByteArray)).bind fun y102 => ((spec_GrammarOk.f k l0_0).bind fun t105 => (if t105 = true then (spec_Kinds.l0 k y102 0 l0_0) else (some y102)))) = some r := h
 clear h
 obtain ⟨y102, hy102⟩ : ∃ y_ : List ByteArray, y_ = (([] : List ByteArray)) := ⟨_, rfl⟩
 replace H : ((spec_GrammarOk.f k l0_0).bind fun t105 => (if t105 = true then (spec_Kinds.l0 k y102 0 l0_0) else (some y102))) = some r := by first | (rw [hy102]; with_reducible exact H) | (have H2_ := (Option.bind_some _ _).symm.trans H; rw [hy102]; with_reducible exact H2_) | (have H2_ := (Option.bind_some _ _).symm.trans H; with_reducible exact H2_) | with_reducible exact H | (rw [hy102]; exact H) | exact H
 have Ny102 := q_ hy102; clear hy102; obtain ⟨t105, A2, H⟩ := ob_ H
 by_cases c3 : t105 = true
 ·subst c3; rw [if_pos rfl] at H
  have H' := q_ H
  clear H
  go_enter Tryz.func37, Tryz.ntmps37
  go_wp2_with (first | ((with_reducible refine gate_dst (N := 1) rfl ?_); refine bx_ 1 #[.slice A0_0 l0_0.length c0_0] 31 ?_; intro gb101 hg w4 hbox hb; have BK101 := q_ (hbox); have GE101 := ge_ hg HB; replace HB := sb_ HB hb; clear hb hbox hg) | ((with_reducible refine gate_dst (N := 7) rfl ?_); refine Kd.R_lit Kd.string _ 9 ?hg (N := 7) ?hd (xs := ([] : List ByteArray)) (inner := []) (ok := fun _ => True) (okp := fun _ => True) ?hr ?hp (fun _ hk => hk) trivial (Below.refl _ _) (Nat.le_refl _) (by simp) ?_; (case hd => rfl); (case hg => rfl); (case hr => first | (go_simp; done) | (go_simp; rfl)); (case hp => exact (Reps.none _ _)); intro v103 w5 ho6 hb hg_ hnew_; clear hg_ hnew_; (first | rw [← Ny102.o] at ho6 | (simp only [Int.reduceToNat] at ho6; rw [← Ny102.o] at ho6)); have HO104 := q_ (Kd.R_lower ho6 (below_size (be1_ HB.o GE101.o))); replace BK101 := lb_ BK101 hb; replace HB := sb1_ HB GE101 hb; clear hb ho6; obtain ⟨hcz7_0, hfz7_0⟩ := d1_ BK101) | ((with_reducible refine gate_callee (f := 36) rfl ?_); refine gl_ (some 9) rfl rfl Tryz.func36 #[.agg #[.slice A0_0 l0_0.length c0_0]] ?_; (with_reducible refine (spec_GrammarOk.calls k _ _ l0_0 true _ ?side1 ?side2 A2.o).mono ?_); (case side1 => exact Kd.C_below HR0_0.o (be_ HB.o)); (case side2 => exact HC0_0.o); rintro e w8 ⟨rfl, hb⟩; refine ⟨_, rfl, ?_⟩; replace HO104 := q_ (Kd.R_below (ra_ HO104.o) hb); replace BK101 := lb_ BK101 hb; replace HB := sb1_ HB GE101 hb; (try clear hb)))
  go_loopg [3, 4] k (fun kq v3 v4 w' => ∃ (x3_1 : List ByteArray) (x4_1 : Int), v4 = .int .i64 x4_1 ∧ J0 (spec_Kinds.l0 kq x3_1 x4_1 l0_0 = some r) ∧ J0 (kq ≤ k) ∧ J0 (Kd.R Kd.string 9 w' w.heap.size (fun _ => True) v3 x3_1) ∧ J0 (w'.heap[gb101]? = some (.cells #[(.slice A0_0 l0_0.length c0_0)] 31 (0, 0))) ∧ J0 (Below w.heap.size w w'))
  case atStart => exact ⟨(y102), (0), rs_, H', ⟨Nat.le_refl _⟩, ⟨ra_ HO104.o⟩, ⟨bk_ BK101.o⟩, ⟨be1_ HB.o GE101.o⟩⟩
  case round =>
   clear H'; (try clear c3); (try clear hcz7_0); (try clear hfz7_0); obtain ⟨x3_1, x4_1, rfl, HA, HK1, HO_3, BK101, HB⟩ := hrel
   cases gk with
   | zero => exact absurd HA.o (by simp [spec_Kinds.l0])
   | succ k1 =>
    have H := HA.o; clear HA
    simp only [spec_Kinds.l0] at H
    by_cases c9 : x4_1 < (l0_0.length : Int)
    ·rw [if_pos c9] at H; have c9b0 := dt_ c9; clear c9
     have H' := q_ H
     clear H; obtain ⟨hcz10_0, hfz10_0⟩ := d1_ BK101
     go_wp2
     go_loopg [3, 5] k1 (fun kq v3 v5 w' => ∃ (x3_2 : List ByteArray) (x5_2 : Int), v5 = .int .i64 x5_2 ∧ J0 (spec_Kinds.l1 kq x3_2 x4_1 x5_2 l0_0 = some r) ∧ J0 (kq ≤ k1) ∧ J0 (Kd.R Kd.string 9 w' w.heap.size (fun _ => True) v3 x3_2) ∧ J0 (w'.heap[gb101]? = some (.cells #[(.slice A0_0 l0_0.length c0_0)] 31 (0, 0))) ∧ J0 (Below w.heap.size w w'))
     case atStart => exact ⟨(x3_1), (0), rs_, H', ⟨Nat.le_refl _⟩, ⟨ra_ HO_3.o⟩, ⟨bk_ BK101.o⟩, ⟨be1_ HB.o GE101.o⟩⟩
     case round =>
      clear H'; (try clear c3); (try clear c9); (try clear c9b0); (try clear hcz10_0); (try clear hcz7_0); (try clear hfz10_0); (try clear hfz7_0); obtain ⟨x3_2, x5_2, rfl, HA, HK2, HO_3, BK101, HB⟩ := hrel
      cases gk with
      | zero => exact absurd HA.o (by simp [spec_Kinds.l1])
      | succ k2 =>
       have H := HA.o; clear HA
       simp only [spec_Kinds.l1] at H
       by_cases c11 : 0 ≤ x4_1
       ·rw [if_pos c11] at H; have c11b0 := dt_ c11; clear c11
        by_cases c12 : x4_1 < (l0_0.length : Int)
        ·rw [if_pos c12] at H; have c12b0 := dt_ c12; clear c12
         by_cases c13 : x5_2 < (((rd_T62 l0_0 x4_1).f1).length : Int)
         ·rw [if_pos c13] at H; have c13b0 := dt_ c13; clear c13
          by_cases c14 : 0 ≤ x5_2
          ·rw [if_pos c14] at H; have c14b0 := dt_ c14; clear c14; obtain ⟨t109, A15, H⟩ := ob_ H
           by_cases c16 : t109 < 0
           ·rw [if_pos c16] at H; have c16b0 := dt_ c16; clear c16
            by_cases c17 : x3_2.length < 8796093022208
            ·rw [if_pos c17] at H; have LMc17 := q_ c17; clear c17
             obtain ⟨y110, hy110⟩ : ∃ y_ : List ByteArray, y_ = (x3_2 ++ [(rd_T64 ((rd_T62 l0_0 x4_1).f1) x5_2).f0]) := ⟨_, rfl⟩
             replace H : (spec_Kinds.l1 k2 y110 x4_1 (wrap64 (x5_2 + 1)) l0_0) = some r := by first | (rw [hy110]; with_reducible exact H) | (have H2_ := (Option.bind_some _ _).symm.trans H; rw [hy110]; with_reducible exact H2_) | (have H2_ := (Option.bind_some _ _).symm.trans H; with_reducible exact H2_) | with_reducible exact H | (rw [hy110]; exact H) | exact H
             have Ny110 := q_ hy110; clear hy110
             have H' := q_ H
             clear H; obtain ⟨hcz18_0, hfz18_0⟩ := d1_ BK101
             have p106 : 0 ≤ (x4_1 : Int) := of_decide_eq_true as_
             have q106 : x4_1 < (l0_0.length : Int) := of_decide_eq_true as_
             obtain ⟨ad106, A106_1, c106_1, e106, hx106_0, hx106_1, hl106_1, hi106_1⟩ := at_T62 HR0_0.o x4_1 p106 q106
             cases e106
             replace hx106_0 := mv_ HB.o hx106_0; replace hx106_1 := mv_ HB.o hx106_1; have HR106_1 := q_ hi106_1; have HC106_1 := q_ hl106_1; clear hi106_1 hl106_1; replace p106 := eq_true p106; replace q106 := eq_true q106
             have p108 : 0 ≤ (x5_2 : Int) := of_decide_eq_true as_
             have q108 : x5_2 < (((rd_T62 l0_0 x4_1).f1).length : Int) := of_decide_eq_true as_
             obtain ⟨ad108, A108_1, c108_1, e108, hx108_0, hx108_1, hx108_2, hx108_3, hx108_4, hl108_1, hi108_1⟩ := at_T64 HR106_1.o x5_2 p108 q108
             cases e108
             replace hx108_0 := mv_ HB.o hx108_0; replace hx108_1 := mv_ HB.o hx108_1; replace hx108_2 := mv_ HB.o hx108_2; replace hx108_3 := mv_ HB.o hx108_3; replace hx108_4 := mv_ HB.o hx108_4; have HR108_1 := q_ hi108_1; have HC108_1 := q_ hl108_1; clear hi108_1 hl108_1; replace p108 := eq_true p108; replace q108 := eq_true q108; obtain ⟨Ao19, co19, eo19⟩ := Kd.R_slice HO_3.o; subst eo19
             go_wp2_with (first | ((with_reducible refine gate_callee (f := 39) rfl ?_); refine gl_ (some 42) rfl rfl Tryz.func39 #[.slice Ao19 x3_2.length co19, .string ((rd_T64 ((rd_T62 l0_0 x4_1).f1) x5_2).f0)] ?_; (with_reducible refine (spec_l20At.calls k2 _ _ x3_2 ((rd_T64 ((rd_T62 l0_0 x4_1).f1) x5_2).f0) t109 _ ?side1 ?side2 A15.o).mono ?_); (case side1 => repeat (first | exact (Kd.R_reads' HO_3.o).2.2 | (with_reducible refine Kd.C_alloc ?_ _) | (with_reducible refine Kd.C_drewN ?_ _) | (with_reducible refine Kd.C_drew ?_))); (case side2 => exact (Kd.R_reads' HO_3.o).2.1); rintro e w' ⟨rfl, ⟨nd, rfl⟩⟩; refine ⟨_, rfl, ?_⟩) | ((with_reducible refine gate_builtin (b := .append) (xs := #[.tmp 44, .tmp 46]) rfl ?_); at_builtin; refine Kd.R_append Kd.string (w0 := w) w.heap.size rfl (.tmp 44) (.tmp 46) 72 9 (.string ⟨#[]⟩) 16 rfl Tryz.underlying72 info9 rfl (by decide) (by omega) (.slice Ao19 x3_2.length co19) x3_2 ((rd_T64 ((rd_T62 l0_0 x4_1).f1) x5_2).f0) [.string ((rd_T64 ((rd_T62 l0_0 x4_1).f1) x5_2).f0)] (fun _ => True) (fun _ => False) rfl rfl ?aP (fun _ hk => hk.elim) ?aF ?aO ?aB ?aS ?aL ?_; (case aP => exact rfl); (case aB => exact (be1_ HB.o GE101.o)); (case aF => exact (fun _ _ => trivial)); (case aO => exact (ra_ HO_3.o)); (case aS => exact (below_size (be1_ HB.o GE101.o))); (case aL => have := LMc17.o; omega); intro v111 w20 ho hb hg hat; rw [← Ny110.o] at ho; have HO112 := q_ (ho); replace BK101 := q_ (blk_grown (g := gb101) (o := .cells #[.slice (some ad106) l0_0.length c0_0] 31 (0, 0)) (bk_ BK101.o) hg (Kd.R_ne HO_3.o BK101.o (by decide))); replace HB := q_ (hb); clear HO_3; clear ho hb hg hat))
             go_roundg k2
             case measure => have := HK1.o; have := HK2.o; omega
             case rel => exact ⟨(y110), (wrap64 (x5_2 + 1)), rs_, H', ⟨by have := HK1.o; have := HK2.o; omega⟩, ⟨ra_ HO112.o⟩, ⟨bk_ BK101.o⟩, ⟨be1_ HB.o GE101.o⟩⟩
            ·rw [if_neg c17] at H
             exact absurd H (by simp)
           ·rw [if_neg c16] at H; have c16b0 := df_ c16; clear c16
            have H' := q_ H
            clear H; obtain ⟨hcz21_0, hfz21_0⟩ := d1_ BK101
            have p106 : 0 ≤ (x4_1 : Int) := of_decide_eq_true as_
            have q106 : x4_1 < (l0_0.length : Int) := of_decide_eq_true as_
            obtain ⟨ad106, A106_1, c106_1, e106, hx106_0, hx106_1, hl106_1, hi106_1⟩ := at_T62 HR0_0.o x4_1 p106 q106
            cases e106
            replace hx106_0 := mv_ HB.o hx106_0; replace hx106_1 := mv_ HB.o hx106_1; have HR106_1 := q_ hi106_1; have HC106_1 := q_ hl106_1; clear hi106_1 hl106_1; replace p106 := eq_true p106; replace q106 := eq_true q106
            have p108 : 0 ≤ (x5_2 : Int) := of_decide_eq_true as_
            have q108 : x5_2 < (((rd_T62 l0_0 x4_1).f1).length : Int) := of_decide_eq_true as_
            obtain ⟨ad108, A108_1, c108_1, e108, hx108_0, hx108_1, hx108_2, hx108_3, hx108_4, hl108_1, hi108_1⟩ := at_T64 HR106_1.o x5_2 p108 q108
            cases e108
            replace hx108_0 := mv_ HB.o hx108_0; replace hx108_1 := mv_ HB.o hx108_1; replace hx108_2 := mv_ HB.o hx108_2; replace hx108_3 := mv_ HB.o hx108_3; replace hx108_4 := mv_ HB.o hx108_4; have HR108_1 := q_ hi108_1; have HC108_1 := q_ hl108_1; clear hi108_1 hl108_1; replace p108 := eq_true p108; replace q108 := eq_true q108; obtain ⟨Ao22, co22, eo22⟩ := Kd.R_slice HO_3.o; subst eo22
            go_wp2_with (((with_reducible refine gate_callee (f := 39) rfl ?_); refine gl_ (some 42) rfl rfl Tryz.func39 #[.slice Ao22 x3_2.length co22, .string ((rd_T64 ((rd_T62 l0_0 x4_1).f1) x5_2).f0)] ?_; (with_reducible refine (spec_l20At.calls k2 _ _ x3_2 ((rd_T64 ((rd_T62 l0_0 x4_1).f1) x5_2).f0) t109 _ ?side1 ?side2 A15.o).mono ?_); (case side1 => repeat (first | exact (Kd.R_reads' HO_3.o).2.2 | (with_reducible refine Kd.C_alloc ?_ _) | (with_reducible refine Kd.C_drewN ?_ _) | (with_reducible refine Kd.C_drew ?_))); (case side2 => exact (Kd.R_reads' HO_3.o).2.1); rintro e w' ⟨rfl, ⟨nd, rfl⟩⟩; refine ⟨_, rfl, ?_⟩))
            go_roundg k2
            case measure => have := HK1.o; have := HK2.o; omega
            case rel => exact ⟨(x3_2), (wrap64 (x5_2 + 1)), rs_, H', ⟨by have := HK1.o; have := HK2.o; omega⟩, ⟨ra_ HO_3.o⟩, ⟨bk_ BK101.o⟩, ⟨be1_ HB.o GE101.o⟩⟩
          ·rw [if_neg c14] at H
           exact absurd H (by simp)
         ·rw [if_neg c13] at H; have c13b0 := df_ c13; clear c13
          have H' := q_ H
          clear H; obtain ⟨hcz23_0, hfz23_0⟩ := d1_ BK101
          have p106 : 0 ≤ (x4_1 : Int) := of_decide_eq_true as_
          have q106 : x4_1 < (l0_0.length : Int) := of_decide_eq_true as_
          obtain ⟨ad106, A106_1, c106_1, e106, hx106_0, hx106_1, hl106_1, hi106_1⟩ := at_T62 HR0_0.o x4_1 p106 q106
          cases e106
          replace hx106_0 := mv_ HB.o hx106_0; replace hx106_1 := mv_ HB.o hx106_1; have HR106_1 := q_ hi106_1; have HC106_1 := q_ hl106_1; clear hi106_1 hl106_1; replace p106 := eq_true p106; replace q106 := eq_true q106
          go_wp2
          go_roundg k2
          case measure => have := HK1.o; have := HK2.o; omega
          case rel => exact ⟨(x3_2), (wrap64 (x4_1 + 1)), rs_, H', ⟨by have := HK1.o; have := HK2.o; omega⟩, ⟨ra_ HO_3.o⟩, ⟨bk_ BK101.o⟩, ⟨be1_ HB.o GE101.o⟩⟩
        ·rw [if_neg c12] at H
         exact absurd H (by simp)
       ·rw [if_neg c11] at H
        exact absurd H (by simp)
    ·rw [if_neg c9] at H; have c9b0 := df_ c9; clear c9; obtain rfl := Option.some.inj H; obtain ⟨hcz24_0, hfz24_0⟩ := d1_ BK101
     go_wp2
     go_ret
     exact ⟨_, rt_, ra_ HO_3.o, be1_ HB.o GE101.o⟩
 ·replace c3 := Bool.eq_false_iff.mpr c3; subst c3; rw [if_neg nft_] at H; obtain rfl := Option.some.inj H
  go_enter Tryz.func37, Tryz.ntmps37
  go_wp2_with (first | ((with_reducible refine gate_dst (N := 1) rfl ?_); refine bx_ 1 #[.slice A0_0 l0_0.length c0_0] 31 ?_; intro gb101 hg w25 hbox hb; have BK101 := q_ (hbox); have GE101 := ge_ hg HB; replace HB := sb_ HB hb; clear hb hbox hg) | ((with_reducible refine gate_dst (N := 7) rfl ?_); refine Kd.R_lit Kd.string _ 9 ?hg (N := 7) ?hd (xs := ([] : List ByteArray)) (inner := []) (ok := fun _ => True) (okp := fun _ => True) ?hr ?hp (fun _ hk => hk) trivial (Below.refl _ _) (Nat.le_refl _) (by simp) ?_; (case hd => rfl); (case hg => rfl); (case hr => first | (go_simp; done) | (go_simp; rfl)); (case hp => exact (Reps.none _ _)); intro v103 w26 ho27 hb hg_ hnew_; clear hg_ hnew_; (first | rw [← Ny102.o] at ho27 | (simp only [Int.reduceToNat] at ho27; rw [← Ny102.o] at ho27)); have HO104 := q_ (Kd.R_lower ho27 (below_size (be1_ HB.o GE101.o))); replace BK101 := lb_ BK101 hb; replace HB := sb1_ HB GE101 hb; clear hb ho27; obtain ⟨hcz28_0, hfz28_0⟩ := d1_ BK101) | ((with_reducible refine gate_callee (f := 36) rfl ?_); refine gl_ (some 9) rfl rfl Tryz.func36 #[.agg #[.slice A0_0 l0_0.length c0_0]] ?_; (with_reducible refine (spec_GrammarOk.calls k _ _ l0_0 false _ ?side1 ?side2 A2.o).mono ?_); (case side1 => exact Kd.C_below HR0_0.o (be_ HB.o)); (case side2 => exact HC0_0.o); rintro e w29 ⟨rfl, hb⟩; refine ⟨_, rfl, ?_⟩; replace HO104 := q_ (Kd.R_below (ra_ HO104.o) hb); replace BK101 := lb_ BK101 hb; replace HB := sb1_ HB GE101 hb; (try clear hb)))
  go_ret
  exact ⟨_, rt_, ra_ HO104.o, be1_ HB.o GE101.o⟩
/-! ### slices_Index_string_string: function 46 -/
def slices_Index_string_string.l0 : Nat → List ByteArray → ByteArray → Int → Int → Option (Int)
 | 0, _, _, _, _ => none
 | k + 1, x0, x1, x7, x8 => if x8 < x7 then (if 0 ≤ x8 then (if x8 < (x0.length : Int) then (if x1.toList = (rdOf ByteArray.empty x0 x8).toList then (some x8) else (slices_Index_string_string.l0 k x0 x1 x7 (wrap64 (x8 + 1)))) else (none)) else (none)) else (some (-1))
def slices_Index_string_string.f (k : Nat) (l0 : List ByteArray) (a1 : ByteArray) : Option (Int) := slices_Index_string_string.l0 k l0 a1 (l0.length : Int) 0
theorem slices_Index_string_string.calls (k : Nat) (A0 : Option Addr) (c0 : Nat) (l0 : List ByteArray) (a1 : ByteArray) (r : Int) (w : World) (hr0 : Kd.C Kd.string w A0 l0.length l0) (hc0 : l0.length ≤ c0) (h : slices_Index_string_string.f k l0 a1 = some r) :
  Calls Tryz.prog 46 #[.slice A0 l0.length c0, .string a1] w fun e w' => e = .returned (.int .i64 r) ∧ Drawn0 w w' := by
 have HR0 := q_ hr0; have HC0 := q_ hc0; clear hr0 hc0
 have H : (slices_Index_string_string.l0 k l0 a1 (l0.length : Int) 0) = some r := h
 clear h
 have H' := q_ H
 clear H
 go_enter Tryz.func46, Tryz.ntmps46
 go_wp2
 go_loopg [8] k (fun kq v8 w' => ∃ (x8_1 : Int), v8 = .int .i64 x8_1 ∧ J0 (slices_Index_string_string.l0 kq l0 a1 (l0.length : Int) x8_1 = some r) ∧ J0 (kq ≤ k) ∧ Drawn0 w w')
 case atStart => exact ⟨(0), rs_, H', ⟨Nat.le_refl _⟩, by repeat (first | exact Drawn0.refl _ | apply Drawn0.step)⟩
 case round =>
  clear H'
  obtain ⟨x8_1, rfl, HA, HK1, ⟨m1, rfl⟩⟩ := hrel
  cases gk with
  | zero => exact absurd HA.o (by simp [slices_Index_string_string.l0])
  | succ k1 =>
   have H := HA.o; clear HA
   simp only [slices_Index_string_string.l0] at H
   by_cases c3 : x8_1 < (l0.length : Int)
   ·rw [if_pos c3] at H; have c3b0 := dt_ c3; clear c3
    by_cases c4 : 0 ≤ x8_1
    ·rw [if_pos c4] at H; have c4b0 := dt_ c4; clear c4
     by_cases c5 : x8_1 < (l0.length : Int)
     ·rw [if_pos c5] at H; have c5b0 := dt_ c5; clear c5
      by_cases c6 : a1.toList = (rdOf ByteArray.empty l0 x8_1).toList
      ·rw [if_pos c6] at H
       have c6b0 : (a1.toList == (rdOf ByteArray.empty l0 x8_1).toList) = true := beq_iff_eq.mpr c6
       have c6b1 : (a1.toList != (rdOf ByteArray.empty l0 x8_1).toList) = false := bne_eq_false_iff_eq.mpr c6
       clear c6; obtain rfl := Option.some.inj H
       have p101 : 0 ≤ (x8_1 : Int) := of_decide_eq_true as_
       have q101 : x8_1 < (l0.length : Int) := of_decide_eq_true as_
       obtain ⟨ad101, e101, hx101_0⟩ := Kd.at_string HR0.o x8_1 p101 q101
       cases e101
       replace p101 := eq_true p101; replace q101 := eq_true q101
       go_wp2
       go_ret
       exact ⟨by first | rfl | (simp; done) | (simp [*]; done), by repeat (first | exact Drawn0.refl _ | apply Drawn0.step)⟩
      ·rw [if_neg c6] at H
       have c6b0 : (a1.toList == (rdOf ByteArray.empty l0 x8_1).toList) = false := beq_eq_false_iff_ne.mpr c6
       have c6b1 : (a1.toList != (rdOf ByteArray.empty l0 x8_1).toList) = true := bne_iff_ne.mpr c6
       have H' := q_ H
       clear H
       have p101 : 0 ≤ (x8_1 : Int) := of_decide_eq_true as_
       have q101 : x8_1 < (l0.length : Int) := of_decide_eq_true as_
       obtain ⟨ad101, e101, hx101_0⟩ := Kd.at_string HR0.o x8_1 p101 q101
       cases e101
       replace p101 := eq_true p101; replace q101 := eq_true q101
       go_wp2
       go_roundg k1
       case measure => have := HK1.o; omega
       case rel => exact ⟨(wrap64 (x8_1 + 1)), rs_, H', ⟨by have := HK1.o; omega⟩, by repeat (first | exact Drawn0.refl _ | apply Drawn0.step)⟩
     ·rw [if_neg c5] at H
      exact absurd H (by simp)
    ·rw [if_neg c4] at H
     exact absurd H (by simp)
   ·rw [if_neg c3] at H; have c3b0 := df_ c3; clear c3; obtain rfl := Option.some.inj H
    go_wp2
    go_ret
    exact ⟨by first | rfl | (simp; done) | (simp [*]; done), by repeat (first | exact Drawn0.refl _ | apply Drawn0.step)⟩
/-! ### slices_Contains_string_string: function 75 -/
def slices_Contains_string_string.f (k : Nat) (l0 : List ByteArray) (a1 : ByteArray) : Option (Bool) := (slices_Index_string_string.f k l0 a1).bind fun t101 => (some (decide (t101 ≥ 0)))
theorem slices_Contains_string_string.calls (k : Nat) (A0 : Option Addr) (c0 : Nat) (l0 : List ByteArray) (a1 : ByteArray) (r : Bool) (w : World) (hr0 : Kd.C Kd.string w A0 l0.length l0) (hc0 : l0.length ≤ c0) (h : slices_Contains_string_string.f k l0 a1 = some r) :
  Calls Tryz.prog 75 #[.slice A0 l0.length c0, .string a1] w fun e w' => e = .returned (.bool r) ∧ Drawn0 w w' := by
 have HR0 := q_ hr0; have HC0 := q_ hc0; clear hr0 hc0
 have H : ((slices_Index_string_string.f k l0 a1).bind fun t101 => (some (decide (t101 ≥ 0)))) = some r := h
 clear h; obtain ⟨t101, A3, H⟩ := ob_ H; obtain rfl := Option.some.inj H
 go_enter Tryz.func75, Tryz.ntmps75
 go_wp2_with (first | ((with_reducible refine gate_callee (f := 46) rfl ?_); refine gl_ (some 7) rfl rfl Tryz.func46 #[.slice A0 l0.length c0, .string a1] ?_; (with_reducible refine (slices_Index_string_string.calls k _ _ l0 a1 t101 _ ?side1 ?side2 A3.o).mono ?_); (case side1 => repeat (first | exact HR0.o | (with_reducible refine Kd.C_alloc ?_ _) | (with_reducible refine Kd.C_drewN ?_ _) | (with_reducible refine Kd.C_drew ?_))); (case side2 => exact HC0.o); rintro e w' ⟨rfl, ⟨nd, rfl⟩⟩; refine ⟨_, rfl, ?_⟩))
 go_ret
 exact ⟨by first | rfl | (simp; done) | (simp [*]; done), by repeat (first | exact Drawn0.refl _ | apply Drawn0.step)⟩
/-! ### impl_Kinds: function 43 -/
mutual
def impl_Kinds.l0 : Nat → List ByteArray → List (S62) → Int → Int → Option (List ByteArray)
 | 0, _, _, _, _ => none
 | k + 1, x3, x13, x14, x15 => if x15 < x14 then (if 0 ≤ x15 then (if x15 < (x13.length : Int) then (impl_Kinds.l1 k x3 x13 x14 x15 ((rd_T62 x13 x15).f1) (((rd_T62 x13 x15).f1).length : Int) 0) else (none)) else (none)) else (some x3)
def impl_Kinds.l1 : Nat → List ByteArray → List (S62) → Int → Int → List (S64) → Int → Int → Option (List ByteArray)
 | 0, _, _, _, _, _, _, _ => none
 | k + 1, x3, x13, x14, x15, x20, x21, x22 => if x22 < x21 then (if 0 ≤ x22 then (if x22 < (x20.length : Int) then ((slices_Contains_string_string.f k x3 ((rd_T64 x20 x22).f0)).bind fun t110 => (if t110 = true then (impl_Kinds.l1 k x3 x13 x14 x15 x20 x21 (wrap64 (x22 + 1))) else (if x3.length < 8796093022208 then (impl_Kinds.l1 k (x3 ++ [(rd_T64 x20 x22).f0]) x13 x14 x15 x20 x21 (wrap64 (x22 + 1))) else (none)))) else (none)) else (none)) else (impl_Kinds.l0 k x3 x13 x14 (wrap64 (x15 + 1)))
end
def impl_Kinds.f (k : Nat) (l0_0 : List (S62)) : Option (List ByteArray) := (impl_GrammarOk.f l0_0).bind fun t102 => (if t102 = true then (impl_Kinds.l0 k (([] : List ByteArray)) l0_0 (l0_0.length : Int) 0) else (some ([] : List ByteArray)))
theorem impl_Kinds.calls (k : Nat) (A0_0 : Option Addr) (c0_0 : Nat) (l0_0 : List (S62)) (r : List ByteArray) (w : World) (hr0_0 : Kd.C k62 w A0_0 l0_0.length l0_0) (hc0_0 : l0_0.length ≤ c0_0) (h : impl_Kinds.f k l0_0 = some r) :
  Calls Tryz.prog 43 #[.agg #[.slice A0_0 l0_0.length c0_0]] w fun e w' => ∃ v0_ : Value, e = .returned (v0_) ∧ Kd.R Kd.string 9 w' w.heap.size (fun _ => True) v0_ r ∧ Below w.heap.size w w' := by
 have hu31 := Tryz.underlying31; have hu62 := Tryz.underlying62; have hu64 := Tryz.underlying64; have HR0_0 := q_ hr0_0; have HC0_0 := q_ hc0_0; clear hr0_0 hc0_0; have HB := q_ (Below.refl w.heap.size w)
 have H : ((impl_GrammarOk.f l0_0).bind fun t102 => (if t102 = true then (impl_Kinds.l0 k (([] : List ByteArray)) l0_0 (l0_0.length : Int) 0) else (some ([] : List ByteArray)))) = some r := h
 clear h; obtain ⟨t102, A2, H⟩ := ob_ H
 by_cases c3 : t102 = true
 ·subst c3; rw [if_pos rfl] at H
  obtain ⟨y103, hy103⟩ : ∃ y_ : List ByteArray, y_ = (([] : List ByteArray)) := ⟨_, rfl⟩
  replace H : (impl_Kinds.l0 k y103 l0_0 (l0_0.length : Int) 0) = some r := by first | (rw [hy103]; with_reducible exact H) | (have H2_ := (Option.bind_some _ _).symm.trans H; rw [hy103]; with_reducible exact H2_) | (have H2_ := (Option.bind_some _ _).symm.trans H; with_reducible exact H2_) | with_reducible exact H | (rw [hy103]; exact H) | exact H
  have Ny103 := q_ hy103; clear hy103
  have H' := q_ H
  clear H
  go_enter Tryz.func43, Tryz.ntmps43
  go_wp2_with (first | ((with_reducible refine gate_dst (N := 1) rfl ?_); refine bx_ 1 #[.slice A0_0 l0_0.length c0_0] 31 ?_; intro gb101 hg w4 hbox hb; have BK101 := q_ (hbox); have GE101 := ge_ hg HB; replace HB := sb_ HB hb; clear hb hbox hg; obtain ⟨hcz5_0, hfz5_0⟩ := d1_ BK101) | ((with_reducible refine gate_callee (f := 42) rfl ?_); refine gl_ (some 9) rfl rfl Tryz.func42 #[.agg #[.slice A0_0 l0_0.length c0_0]] ?_; (with_reducible refine (impl_GrammarOk.calls _ _ l0_0 true _ ?side1 ?side2 A2.o).mono ?_); (case side1 => exact Kd.C_below HR0_0.o (be_ HB.o)); (case side2 => exact HC0_0.o); rintro e w6 ⟨rfl, hb⟩; refine ⟨_, rfl, ?_⟩; replace BK101 := lb_ BK101 hb; replace HB := sb1_ HB GE101 hb; (try clear hb)) | ((with_reducible refine gate_dst (N := 11) rfl ?_); refine Kd.R_lit Kd.string _ 9 ?hg (N := 11) ?hd (xs := ([] : List ByteArray)) (inner := []) (ok := fun _ => True) (okp := fun _ => True) ?hr ?hp (fun _ hk => hk) trivial (Below.refl _ _) (Nat.le_refl _) (by simp) ?_; (case hd => rfl); (case hg => rfl); (case hr => first | (go_simp; done) | (go_simp; rfl)); (case hp => exact (Reps.none _ _)); intro v104 w7 ho8 hb hg_ hnew_; clear hg_ hnew_; (first | rw [← Ny103.o] at ho8 | (simp only [Int.reduceToNat] at ho8; rw [← Ny103.o] at ho8)); have HO105 := q_ (Kd.R_lower ho8 (below_size (be1_ HB.o GE101.o))); replace BK101 := lb_ BK101 hb; replace HB := sb1_ HB GE101 hb; clear hb ho8; obtain ⟨hcz9_0, hfz9_0⟩ := d1_ BK101))
  go_loopg [3, 15] k (fun kq v3 v15 w' => ∃ (x3_1 : List ByteArray) (x15_1 : Int), v15 = .int .i64 x15_1 ∧ J0 (impl_Kinds.l0 kq x3_1 l0_0 (l0_0.length : Int) x15_1 = some r) ∧ J0 (kq ≤ k) ∧ J0 (Kd.R Kd.string 9 w' w.heap.size (fun _ => True) v3 x3_1) ∧ J0 (w'.heap[gb101]? = some (.cells #[(.slice A0_0 l0_0.length c0_0)] 31 (0, 0))) ∧ J0 (Below w.heap.size w w'))
  case atStart => exact ⟨(y103), (0), rs_, H', ⟨Nat.le_refl _⟩, ⟨ra_ HO105.o⟩, ⟨bk_ BK101.o⟩, ⟨be1_ HB.o GE101.o⟩⟩
  case round =>
   clear H'; (try clear c3); (try clear hcz5_0); (try clear hcz9_0); (try clear hfz5_0); (try clear hfz9_0); obtain ⟨x3_1, x15_1, rfl, HA, HK1, HO_3, BK101, HB⟩ := hrel
   cases gk with
   | zero => exact absurd HA.o (by simp [impl_Kinds.l0])
   | succ k1 =>
    have H := HA.o; clear HA
    simp only [impl_Kinds.l0] at H
    by_cases c10 : x15_1 < (l0_0.length : Int)
    ·rw [if_pos c10] at H; have c10b0 := dt_ c10; clear c10
     by_cases c11 : 0 ≤ x15_1
     ·rw [if_pos c11] at H; have c11b0 := dt_ c11; clear c11
      by_cases c12 : x15_1 < (l0_0.length : Int)
      ·rw [if_pos c12] at H; have c12b0 := dt_ c12; clear c12
       have H' := q_ H
       clear H
       have p106 : 0 ≤ (x15_1 : Int) := of_decide_eq_true as_
       have q106 : x15_1 < (l0_0.length : Int) := of_decide_eq_true as_
       obtain ⟨ad106, A106_1, c106_1, e106, hx106_0, hx106_1, hl106_1, hi106_1⟩ := at_T62 HR0_0.o x15_1 p106 q106
       cases e106
       replace hx106_0 := mv_ HB.o hx106_0; replace hx106_1 := mv_ HB.o hx106_1; have HR106_1 := q_ hi106_1; have HC106_1 := q_ hl106_1; clear hi106_1 hl106_1; replace p106 := eq_true p106; replace q106 := eq_true q106
       go_wp2_with (((with_reducible refine gate_dst (N := 5) rfl ?_); refine bx_ 5 #[.string (⟨#[]⟩ : ByteArray), .slice none 0 0] 62 ?_; intro gb107 hg w13 hbox hb; have BK107 := q_ (hbox); have GE107 := ge1_ hg HB GE101; have NB101_107 := nl_ hg BK101; have NB107_101 := ng_ hg BK101; replace HO_3 := q_ (Kd.R_below (ra_ HO_3.o) hb); replace BK101 := lb_ BK101 hb; replace HB := sb1_ HB GE101 hb; clear hb hbox hg; have hnb14 := NB107_101.o; have hnc14 := NB101_107.o; obtain ⟨hcz15_0, hcz15_1, hfz15_0, hfz15_1⟩ := d2_ BK107))
       go_loopg [3, 22] k1 (fun kq v3 v22 w' => ∃ (x3_2 : List ByteArray) (x22_2 : Int), v22 = .int .i64 x22_2 ∧ J0 (impl_Kinds.l1 kq x3_2 l0_0 (l0_0.length : Int) x15_1 ((rd_T62 l0_0 x15_1).f1) (((rd_T62 l0_0 x15_1).f1).length : Int) x22_2 = some r) ∧ J0 (kq ≤ k1) ∧ J0 (Kd.R Kd.string 9 w' w.heap.size (fun _ => True) v3 x3_2) ∧ J0 (w'.heap[gb101]? = some (.cells #[(.slice (some ad106) l0_0.length c0_0)] 31 (0, 0))) ∧ J0 (w'.heap[gb107]? = some (.cells #[.string ((rd_T62 l0_0 x15_1).f0), (.slice A106_1 ((rd_T62 l0_0 x15_1).f1).length c106_1)] 62 (0, 0))) ∧ J0 (Below w.heap.size w w'))
       case atStart => exact ⟨(x3_1), (0), rs_, H', ⟨Nat.le_refl _⟩, ⟨by (with_reducible repeat (first | apply Kd.R_alloc | apply Kd.R_drewN | apply Kd.R_drew)); exact Kd.R_mono (Kd.R_far (p := ⟨gb107, 1, none⟩) (Kd.R_far (p := ⟨gb107, 0, none⟩) (Kd.R_types HO_3.o BK107.o (by decide)) (fun _ hk => hk.2) (.string ((rd_T62 l0_0 x15_1).f0))) (fun _ hk => hk.2) (.slice A106_1 ((rd_T62 l0_0 x15_1).f1).length c106_1)) (fun _ hk => trivial)⟩, ⟨by (with_reducible repeat (first | refine blk_drewN ?_ _ | refine blk_drew ?_ | refine blk_alloc ?_ _)); refine blk_far ?_ NB101_107.o _; (with_reducible repeat (first | refine blk_drewN ?_ _ | refine blk_drew ?_ | refine blk_alloc ?_ _)); refine blk_far ?_ NB101_107.o _; (with_reducible repeat (first | refine blk_drewN ?_ _ | refine blk_drew ?_ | refine blk_alloc ?_ _)); exact BK101.o⟩, ⟨by (with_reducible repeat (first | refine blk_drewN ?_ _ | refine blk_drew ?_ | refine blk_alloc ?_ _)); refine blk_put (cs := #[.string ((rd_T62 l0_0 x15_1).f0), .slice none 0 0]) ?_ 1 _ rfl; (with_reducible repeat (first | refine blk_drewN ?_ _ | refine blk_drew ?_ | refine blk_alloc ?_ _)); refine blk_put (cs := #[.string (⟨#[]⟩ : ByteArray), .slice none 0 0]) ?_ 0 _ rfl; (with_reducible repeat (first | refine blk_drewN ?_ _ | refine blk_drew ?_ | refine blk_alloc ?_ _)); exact BK107.o⟩, ⟨be2_ HB.o GE101.o GE107.o⟩⟩
       case round =>
        clear H'; (try clear c3); (try clear c10); (try clear c10b0); (try clear c11); (try clear c11b0); (try clear c12); (try clear c12b0); (try clear hcz15_0); (try clear hcz15_1); (try clear hcz5_0); (try clear hcz9_0); (try clear hfz15_0); (try clear hfz15_1); (try clear hfz5_0); (try clear hfz9_0); (try clear hx106_0); (try clear hx106_1); (try clear p106); (try clear q106); obtain ⟨x3_2, x22_2, rfl, HA, HK2, HO_3, BK101, BK107, HB⟩ := hrel
        cases gk with
        | zero => exact absurd HA.o (by simp [impl_Kinds.l1])
        | succ k2 =>
         have H := HA.o; clear HA
         simp only [impl_Kinds.l1] at H
         by_cases c16 : x22_2 < (((rd_T62 l0_0 x15_1).f1).length : Int)
         ·rw [if_pos c16] at H; have c16b0 := dt_ c16; clear c16
          by_cases c17 : 0 ≤ x22_2
          ·rw [if_pos c17] at H; have c17b0 := dt_ c17; clear c17
           by_cases c18 : x22_2 < (((rd_T62 l0_0 x15_1).f1).length : Int)
           ·rw [if_pos c18] at H; have c18b0 := dt_ c18; clear c18; obtain ⟨t110, A19, H⟩ := ob_ H
            by_cases c20 : t110 = true
            ·subst c20; rw [if_pos rfl] at H
             have H' := q_ H
             clear H
             have p108 : 0 ≤ (x22_2 : Int) := of_decide_eq_true as_
             have q108 : x22_2 < (((rd_T62 l0_0 x15_1).f1).length : Int) := of_decide_eq_true as_
             obtain ⟨ad108, A108_1, c108_1, e108, hx108_0, hx108_1, hx108_2, hx108_3, hx108_4, hl108_1, hi108_1⟩ := at_T64 HR106_1.o x22_2 p108 q108
             cases e108
             replace hx108_0 := mv_ HB.o hx108_0; replace hx108_1 := mv_ HB.o hx108_1; replace hx108_2 := mv_ HB.o hx108_2; replace hx108_3 := mv_ HB.o hx108_3; replace hx108_4 := mv_ HB.o hx108_4; have HR108_1 := q_ hi108_1; have HC108_1 := q_ hl108_1; clear hi108_1 hl108_1; replace p108 := eq_true p108; replace q108 := eq_true q108
             go_wp2_with (first | ((with_reducible refine gate_dst (N := 7) rfl ?_); refine bx_ 7 #[.string (⟨#[]⟩ : ByteArray), .slice none 0 0, .bool false, .int .i64 0, .string (⟨#[]⟩ : ByteArray)] 64 ?_; intro gb109 hg w21 hbox hb; have BK109 := q_ (hbox); have GE109 := ge2_ hg HB GE101 GE107; have NB101_109 := nl_ hg BK101; have NB109_101 := ng_ hg BK101; have NB107_109 := nl_ hg BK107; have NB109_107 := ng_ hg BK107; replace HO_3 := q_ (Kd.R_below (ra_ HO_3.o) hb); replace BK101 := lb_ BK101 hb; replace BK107 := lb_ BK107 hb; replace HB := sb2_ HB GE101 GE107 hb; clear hb hbox hg; have hnb22 := NB109_101.o; have hnc22 := NB101_109.o; have hnb23 := NB109_107.o; have hnc23 := NB107_109.o; obtain ⟨hcz24_0, hcz24_1, hcz24_2, hcz24_3, hcz24_4, hfz24_0, hfz24_1, hfz24_2, hfz24_3, hfz24_4⟩ := d5_ BK109; obtain ⟨Ao25, co25, eo25⟩ := Kd.R_slice HO_3.o; subst eo25) | ((with_reducible refine gate_callee (f := 75) rfl ?_); refine gl_ (some 29) rfl rfl Tryz.func75 #[.slice Ao25 x3_2.length co25, .string ((rd_T64 ((rd_T62 l0_0 x15_1).f1) x22_2).f0)] ?_; (with_reducible refine (slices_Contains_string_string.calls k2 _ _ x3_2 ((rd_T64 ((rd_T62 l0_0 x15_1).f1) x22_2).f0) true _ ?side1 ?side2 A19.o).mono ?_); (case side1 => refine (Kd.R_reads' (e := 9) (base := w.heap.size) (ok := fun k_ => True) (n := x3_2.length) (c := co25) ?_).2.2; exact (by (with_reducible repeat (first | apply Kd.R_alloc | apply Kd.R_drewN | apply Kd.R_drew)); exact (Kd.R_mono (Kd.R_far (p := ⟨gb109, 4, none⟩) (Kd.R_far (p := ⟨gb109, 3, none⟩) (Kd.R_far (p := ⟨gb109, 2, none⟩) (Kd.R_far (p := ⟨gb109, 1, none⟩) (Kd.R_far (p := ⟨gb109, 0, none⟩) (Kd.R_types HO_3.o BK109.o (by decide)) (fun _ hk => hk.2) (.string ((rd_T64 ((rd_T62 l0_0 x15_1).f1) x22_2).f0))) (fun _ hk => hk.2) (.slice A108_1 ((rd_T64 ((rd_T62 l0_0 x15_1).f1) x22_2).f1.f0).length c108_1)) (fun _ hk => hk.2) (.bool ((rd_T64 ((rd_T62 l0_0 x15_1).f1) x22_2).f2))) (fun _ hk => hk.2) (.int .i64 ((rd_T64 ((rd_T62 l0_0 x15_1).f1) x22_2).f3))) (fun _ hk => hk.2) (.string ((rd_T64 ((rd_T62 l0_0 x15_1).f1) x22_2).f4))) (fun _ h_ => h_.1)))); (case side2 => exact (Kd.R_reads' HO_3.o).2.1); rintro e w' ⟨rfl, ⟨nd, rfl⟩⟩; refine ⟨_, rfl, ?_⟩))
             go_roundg k2
             case measure => have := HK1.o; have := HK2.o; omega
             case rel => exact ⟨(x3_2), (wrap64 (x22_2 + 1)), rs_, H', ⟨by have := HK1.o; have := HK2.o; omega⟩, ⟨by (with_reducible repeat (first | apply Kd.R_alloc | apply Kd.R_drewN | apply Kd.R_drew)); exact Kd.R_mono (Kd.R_far (p := ⟨gb109, 4, none⟩) (Kd.R_far (p := ⟨gb109, 3, none⟩) (Kd.R_far (p := ⟨gb109, 2, none⟩) (Kd.R_far (p := ⟨gb109, 1, none⟩) (Kd.R_far (p := ⟨gb109, 0, none⟩) (Kd.R_types HO_3.o BK109.o (by decide)) (fun _ hk => hk.2) (.string ((rd_T64 ((rd_T62 l0_0 x15_1).f1) x22_2).f0))) (fun _ hk => hk.2) (.slice A108_1 ((rd_T64 ((rd_T62 l0_0 x15_1).f1) x22_2).f1.f0).length c108_1)) (fun _ hk => hk.2) (.bool ((rd_T64 ((rd_T62 l0_0 x15_1).f1) x22_2).f2))) (fun _ hk => hk.2) (.int .i64 ((rd_T64 ((rd_T62 l0_0 x15_1).f1) x22_2).f3))) (fun _ hk => hk.2) (.string ((rd_T64 ((rd_T62 l0_0 x15_1).f1) x22_2).f4))) (fun _ hk => trivial)⟩, ⟨by (with_reducible repeat (first | refine blk_drewN ?_ _ | refine blk_drew ?_ | refine blk_alloc ?_ _)); refine blk_far ?_ NB101_109.o _; (with_reducible repeat (first | refine blk_drewN ?_ _ | refine blk_drew ?_ | refine blk_alloc ?_ _)); refine blk_far ?_ NB101_109.o _; (with_reducible repeat (first | refine blk_drewN ?_ _ | refine blk_drew ?_ | refine blk_alloc ?_ _)); refine blk_far ?_ NB101_109.o _; (with_reducible repeat (first | refine blk_drewN ?_ _ | refine blk_drew ?_ | refine blk_alloc ?_ _)); refine blk_far ?_ NB101_109.o _; (with_reducible repeat (first | refine blk_drewN ?_ _ | refine blk_drew ?_ | refine blk_alloc ?_ _)); refine blk_far ?_ NB101_109.o _; (with_reducible repeat (first | refine blk_drewN ?_ _ | refine blk_drew ?_ | refine blk_alloc ?_ _)); exact BK101.o⟩, ⟨by (with_reducible repeat (first | refine blk_drewN ?_ _ | refine blk_drew ?_ | refine blk_alloc ?_ _)); refine blk_far ?_ NB107_109.o _; (with_reducible repeat (first | refine blk_drewN ?_ _ | refine blk_drew ?_ | refine blk_alloc ?_ _)); refine blk_far ?_ NB107_109.o _; (with_reducible repeat (first | refine blk_drewN ?_ _ | refine blk_drew ?_ | refine blk_alloc ?_ _)); refine blk_far ?_ NB107_109.o _; (with_reducible repeat (first | refine blk_drewN ?_ _ | refine blk_drew ?_ | refine blk_alloc ?_ _)); refine blk_far ?_ NB107_109.o _; (with_reducible repeat (first | refine blk_drewN ?_ _ | refine blk_drew ?_ | refine blk_alloc ?_ _)); refine blk_far ?_ NB107_109.o _; (with_reducible repeat (first | refine blk_drewN ?_ _ | refine blk_drew ?_ | refine blk_alloc ?_ _)); exact BK107.o⟩, ⟨be3_ HB.o GE101.o GE107.o GE109.o⟩⟩
            ·replace c20 := Bool.eq_false_iff.mpr c20; subst c20; rw [if_neg nft_] at H
             by_cases c26 : x3_2.length < 8796093022208
             ·rw [if_pos c26] at H; have LMc26 := q_ c26; clear c26
              obtain ⟨y111, hy111⟩ : ∃ y_ : List ByteArray, y_ = (x3_2 ++ [(rd_T64 ((rd_T62 l0_0 x15_1).f1) x22_2).f0]) := ⟨_, rfl⟩
              replace H : (impl_Kinds.l1 k2 y111 l0_0 (l0_0.length : Int) x15_1 ((rd_T62 l0_0 x15_1).f1) (((rd_T62 l0_0 x15_1).f1).length : Int) (wrap64 (x22_2 + 1))) = some r := by first | (rw [hy111]; with_reducible exact H) | (have H2_ := (Option.bind_some _ _).symm.trans H; rw [hy111]; with_reducible exact H2_) | (have H2_ := (Option.bind_some _ _).symm.trans H; with_reducible exact H2_) | with_reducible exact H | (rw [hy111]; exact H) | exact H
              have Ny111 := q_ hy111; clear hy111
              have H' := q_ H
              clear H
              have p108 : 0 ≤ (x22_2 : Int) := of_decide_eq_true as_
              have q108 : x22_2 < (((rd_T62 l0_0 x15_1).f1).length : Int) := of_decide_eq_true as_
              obtain ⟨ad108, A108_1, c108_1, e108, hx108_0, hx108_1, hx108_2, hx108_3, hx108_4, hl108_1, hi108_1⟩ := at_T64 HR106_1.o x22_2 p108 q108
              cases e108
              replace hx108_0 := mv_ HB.o hx108_0; replace hx108_1 := mv_ HB.o hx108_1; replace hx108_2 := mv_ HB.o hx108_2; replace hx108_3 := mv_ HB.o hx108_3; replace hx108_4 := mv_ HB.o hx108_4; have HR108_1 := q_ hi108_1; have HC108_1 := q_ hl108_1; clear hi108_1 hl108_1; replace p108 := eq_true p108; replace q108 := eq_true q108
              go_wp2_with (first | ((with_reducible refine gate_dst (N := 7) rfl ?_); refine bx_ 7 #[.string (⟨#[]⟩ : ByteArray), .slice none 0 0, .bool false, .int .i64 0, .string (⟨#[]⟩ : ByteArray)] 64 ?_; intro gb109 hg w27 hbox hb; have BK109 := q_ (hbox); have GE109 := ge2_ hg HB GE101 GE107; have NB101_109 := nl_ hg BK101; have NB109_101 := ng_ hg BK101; have NB107_109 := nl_ hg BK107; have NB109_107 := ng_ hg BK107; replace HO_3 := q_ (Kd.R_below (ra_ HO_3.o) hb); replace BK101 := lb_ BK101 hb; replace BK107 := lb_ BK107 hb; replace HB := sb2_ HB GE101 GE107 hb; clear hb hbox hg; have hnb28 := NB109_101.o; have hnc28 := NB101_109.o; have hnb29 := NB109_107.o; have hnc29 := NB107_109.o; obtain ⟨hcz30_0, hcz30_1, hcz30_2, hcz30_3, hcz30_4, hfz30_0, hfz30_1, hfz30_2, hfz30_3, hfz30_4⟩ := d5_ BK109; obtain ⟨Ao31, co31, eo31⟩ := Kd.R_slice HO_3.o; subst eo31) | ((with_reducible refine gate_callee (f := 75) rfl ?_); refine gl_ (some 29) rfl rfl Tryz.func75 #[.slice Ao31 x3_2.length co31, .string ((rd_T64 ((rd_T62 l0_0 x15_1).f1) x22_2).f0)] ?_; (with_reducible refine (slices_Contains_string_string.calls k2 _ _ x3_2 ((rd_T64 ((rd_T62 l0_0 x15_1).f1) x22_2).f0) false _ ?side1 ?side2 A19.o).mono ?_); (case side1 => refine (Kd.R_reads' (e := 9) (base := w.heap.size) (ok := fun k_ => True) (n := x3_2.length) (c := co31) ?_).2.2; exact (by (with_reducible repeat (first | apply Kd.R_alloc | apply Kd.R_drewN | apply Kd.R_drew)); exact (Kd.R_mono (Kd.R_far (p := ⟨gb109, 4, none⟩) (Kd.R_far (p := ⟨gb109, 3, none⟩) (Kd.R_far (p := ⟨gb109, 2, none⟩) (Kd.R_far (p := ⟨gb109, 1, none⟩) (Kd.R_far (p := ⟨gb109, 0, none⟩) (Kd.R_types HO_3.o BK109.o (by decide)) (fun _ hk => hk.2) (.string ((rd_T64 ((rd_T62 l0_0 x15_1).f1) x22_2).f0))) (fun _ hk => hk.2) (.slice A108_1 ((rd_T64 ((rd_T62 l0_0 x15_1).f1) x22_2).f1.f0).length c108_1)) (fun _ hk => hk.2) (.bool ((rd_T64 ((rd_T62 l0_0 x15_1).f1) x22_2).f2))) (fun _ hk => hk.2) (.int .i64 ((rd_T64 ((rd_T62 l0_0 x15_1).f1) x22_2).f3))) (fun _ hk => hk.2) (.string ((rd_T64 ((rd_T62 l0_0 x15_1).f1) x22_2).f4))) (fun _ h_ => h_.1)))); (case side2 => exact (Kd.R_reads' HO_3.o).2.1); rintro e w' ⟨rfl, ⟨nd, rfl⟩⟩; refine ⟨_, rfl, ?_⟩) | ((with_reducible refine gate_builtin (b := .append) (xs := #[.tmp 31, .tmp 34]) rfl ?_); at_builtin; refine Kd.R_append Kd.string (w0 := w) w.heap.size rfl (.tmp 31) (.tmp 34) 72 9 (.string ⟨#[]⟩) 16 rfl Tryz.underlying72 info9 rfl (by decide) (by omega) (.slice Ao31 x3_2.length co31) x3_2 ((rd_T64 ((rd_T62 l0_0 x15_1).f1) x22_2).f0) [.string ((rd_T64 ((rd_T62 l0_0 x15_1).f1) x22_2).f0)] (fun _ => True) (fun _ => False) rfl (by first | (go_simp; done) | (go_simp; rfl)) ?aP (fun _ hk => hk.elim) ?aF ?aO ?aB ?aS ?aL ?_; (case aP => exact rfl); (case aB => exact (be3_ HB.o GE101.o GE107.o GE109.o)); (case aF => exact (fun _ _ => trivial)); (case aO => exact (by (with_reducible repeat (first | apply Kd.R_alloc | apply Kd.R_drewN | apply Kd.R_drew)); exact Kd.R_mono (Kd.R_far (p := ⟨gb109, 4, none⟩) (Kd.R_far (p := ⟨gb109, 3, none⟩) (Kd.R_far (p := ⟨gb109, 2, none⟩) (Kd.R_far (p := ⟨gb109, 1, none⟩) (Kd.R_far (p := ⟨gb109, 0, none⟩) (Kd.R_types HO_3.o BK109.o (by decide)) (fun _ hk => hk.2) (.string ((rd_T64 ((rd_T62 l0_0 x15_1).f1) x22_2).f0))) (fun _ hk => hk.2) (.slice A108_1 ((rd_T64 ((rd_T62 l0_0 x15_1).f1) x22_2).f1.f0).length c108_1)) (fun _ hk => hk.2) (.bool ((rd_T64 ((rd_T62 l0_0 x15_1).f1) x22_2).f2))) (fun _ hk => hk.2) (.int .i64 ((rd_T64 ((rd_T62 l0_0 x15_1).f1) x22_2).f3))) (fun _ hk => hk.2) (.string ((rd_T64 ((rd_T62 l0_0 x15_1).f1) x22_2).f4))) (fun _ hk => trivial))); (case aS => exact (below_size (be3_ HB.o GE101.o GE107.o GE109.o))); (case aL => have := LMc26.o; omega); intro v112 w32 ho hb hg hat; rw [← Ny111.o] at ho; have HO113 := q_ (ho); replace BK101 := q_ (blk_grown (g := gb101) (o := .cells #[.slice (some ad106) l0_0.length c0_0] 31 (0, 0)) (by (with_reducible repeat (first | refine blk_drewN ?_ _ | refine blk_drew ?_ | refine blk_alloc ?_ _)); refine blk_far ?_ NB101_109.o _; (with_reducible repeat (first | refine blk_drewN ?_ _ | refine blk_drew ?_ | refine blk_alloc ?_ _)); refine blk_far ?_ NB101_109.o _; (with_reducible repeat (first | refine blk_drewN ?_ _ | refine blk_drew ?_ | refine blk_alloc ?_ _)); refine blk_far ?_ NB101_109.o _; (with_reducible repeat (first | refine blk_drewN ?_ _ | refine blk_drew ?_ | refine blk_alloc ?_ _)); refine blk_far ?_ NB101_109.o _; (with_reducible repeat (first | refine blk_drewN ?_ _ | refine blk_drew ?_ | refine blk_alloc ?_ _)); refine blk_far ?_ NB101_109.o _; (with_reducible repeat (first | refine blk_drewN ?_ _ | refine blk_drew ?_ | refine blk_alloc ?_ _)); exact BK101.o) hg (Kd.R_ne HO_3.o BK101.o (by decide))); replace BK107 := q_ (blk_grown (g := gb107) (o := .cells #[.string ((rd_T62 l0_0 x15_1).f0), .slice (some ad108) ((rd_T62 l0_0 x15_1).f1).length c106_1] 62 (0, 0)) (by (with_reducible repeat (first | refine blk_drewN ?_ _ | refine blk_drew ?_ | refine blk_alloc ?_ _)); refine blk_far ?_ NB107_109.o _; (with_reducible repeat (first | refine blk_drewN ?_ _ | refine blk_drew ?_ | refine blk_alloc ?_ _)); refine blk_far ?_ NB107_109.o _; (with_reducible repeat (first | refine blk_drewN ?_ _ | refine blk_drew ?_ | refine blk_alloc ?_ _)); refine blk_far ?_ NB107_109.o _; (with_reducible repeat (first | refine blk_drewN ?_ _ | refine blk_drew ?_ | refine blk_alloc ?_ _)); refine blk_far ?_ NB107_109.o _; (with_reducible repeat (first | refine blk_drewN ?_ _ | refine blk_drew ?_ | refine blk_alloc ?_ _)); refine blk_far ?_ NB107_109.o _; (with_reducible repeat (first | refine blk_drewN ?_ _ | refine blk_drew ?_ | refine blk_alloc ?_ _)); exact BK107.o) hg (Kd.R_ne HO_3.o BK107.o (by decide))); replace BK109 := q_ (blk_grown (g := gb109) (o := .cells #[.string ((rd_T64 ((rd_T62 l0_0 x15_1).f1) x22_2).f0), .slice A108_1 ((rd_T64 ((rd_T62 l0_0 x15_1).f1) x22_2).f1.f0).length c108_1, .bool ((rd_T64 ((rd_T62 l0_0 x15_1).f1) x22_2).f2), .int .i64 ((rd_T64 ((rd_T62 l0_0 x15_1).f1) x22_2).f3), .string ((rd_T64 ((rd_T62 l0_0 x15_1).f1) x22_2).f4)] 64 (0, 0)) (by (with_reducible repeat (first | refine blk_drewN ?_ _ | refine blk_drew ?_ | refine blk_alloc ?_ _)); refine blk_put (cs := #[.string ((rd_T64 ((rd_T62 l0_0 x15_1).f1) x22_2).f0), .slice A108_1 ((rd_T64 ((rd_T62 l0_0 x15_1).f1) x22_2).f1.f0).length c108_1, .bool ((rd_T64 ((rd_T62 l0_0 x15_1).f1) x22_2).f2), .int .i64 ((rd_T64 ((rd_T62 l0_0 x15_1).f1) x22_2).f3), .string (⟨#[]⟩ : ByteArray)]) ?_ 4 _ rfl; (with_reducible repeat (first | refine blk_drewN ?_ _ | refine blk_drew ?_ | refine blk_alloc ?_ _)); refine blk_put (cs := #[.string ((rd_T64 ((rd_T62 l0_0 x15_1).f1) x22_2).f0), .slice A108_1 ((rd_T64 ((rd_T62 l0_0 x15_1).f1) x22_2).f1.f0).length c108_1, .bool ((rd_T64 ((rd_T62 l0_0 x15_1).f1) x22_2).f2), .int .i64 0, .string (⟨#[]⟩ : ByteArray)]) ?_ 3 _ rfl; (with_reducible repeat (first | refine blk_drewN ?_ _ | refine blk_drew ?_ | refine blk_alloc ?_ _)); refine blk_put (cs := #[.string ((rd_T64 ((rd_T62 l0_0 x15_1).f1) x22_2).f0), .slice A108_1 ((rd_T64 ((rd_T62 l0_0 x15_1).f1) x22_2).f1.f0).length c108_1, .bool false, .int .i64 0, .string (⟨#[]⟩ : ByteArray)]) ?_ 2 _ rfl; (with_reducible repeat (first | refine blk_drewN ?_ _ | refine blk_drew ?_ | refine blk_alloc ?_ _)); refine blk_put (cs := #[.string ((rd_T64 ((rd_T62 l0_0 x15_1).f1) x22_2).f0), .slice none 0 0, .bool false, .int .i64 0, .string (⟨#[]⟩ : ByteArray)]) ?_ 1 _ rfl; (with_reducible repeat (first | refine blk_drewN ?_ _ | refine blk_drew ?_ | refine blk_alloc ?_ _)); refine blk_put (cs := #[.string (⟨#[]⟩ : ByteArray), .slice none 0 0, .bool false, .int .i64 0, .string (⟨#[]⟩ : ByteArray)]) ?_ 0 _ rfl; (with_reducible repeat (first | refine blk_drewN ?_ _ | refine blk_drew ?_ | refine blk_alloc ?_ _)); exact BK109.o) hg (Kd.R_ne HO_3.o BK109.o (by decide))); replace HB := q_ (hb); clear HO_3; clear ho hb hg hat))
              go_roundg k2
              case measure => have := HK1.o; have := HK2.o; omega
              case rel => exact ⟨(y111), (wrap64 (x22_2 + 1)), rs_, H', ⟨by have := HK1.o; have := HK2.o; omega⟩, ⟨ra_ HO113.o⟩, ⟨bk_ BK101.o⟩, ⟨bk_ BK107.o⟩, ⟨be3_ HB.o GE101.o GE107.o GE109.o⟩⟩
             ·rw [if_neg c26] at H
              exact absurd H (by simp)
           ·rw [if_neg c18] at H
            exact absurd H (by simp)
          ·rw [if_neg c17] at H
           exact absurd H (by simp)
         ·rw [if_neg c16] at H; have c16b0 := df_ c16; clear c16
          have H' := q_ H
          clear H
          go_wp2
          go_roundg k2
          case measure => have := HK1.o; have := HK2.o; omega
          case rel => exact ⟨(x3_2), (wrap64 (x15_1 + 1)), rs_, H', ⟨by have := HK1.o; have := HK2.o; omega⟩, ⟨ra_ HO_3.o⟩, ⟨bk_ BK101.o⟩, ⟨be2_ HB.o GE101.o GE107.o⟩⟩
      ·rw [if_neg c12] at H
       exact absurd H (by simp)
     ·rw [if_neg c11] at H
      exact absurd H (by simp)
    ·rw [if_neg c10] at H; have c10b0 := df_ c10; clear c10; obtain rfl := Option.some.inj H
     go_wp2
     go_ret
     exact ⟨_, rt_, ra_ HO_3.o, be1_ HB.o GE101.o⟩
 ·replace c3 := Bool.eq_false_iff.mpr c3; subst c3; rw [if_neg nft_] at H; obtain rfl := Option.some.inj H
  go_enter Tryz.func43, Tryz.ntmps43
  go_wp2_with (first | ((with_reducible refine gate_dst (N := 1) rfl ?_); refine bx_ 1 #[.slice A0_0 l0_0.length c0_0] 31 ?_; intro gb101 hg w33 hbox hb; have BK101 := q_ (hbox); have GE101 := ge_ hg HB; replace HB := sb_ HB hb; clear hb hbox hg; obtain ⟨hcz34_0, hfz34_0⟩ := d1_ BK101) | ((with_reducible refine gate_callee (f := 42) rfl ?_); refine gl_ (some 9) rfl rfl Tryz.func42 #[.agg #[.slice A0_0 l0_0.length c0_0]] ?_; (with_reducible refine (impl_GrammarOk.calls _ _ l0_0 false _ ?side1 ?side2 A2.o).mono ?_); (case side1 => exact Kd.C_below HR0_0.o (be_ HB.o)); (case side2 => exact HC0_0.o); rintro e w35 ⟨rfl, hb⟩; refine ⟨_, rfl, ?_⟩; replace BK101 := lb_ BK101 hb; replace HB := sb1_ HB GE101 hb; (try clear hb)))
  go_ret
  exact ⟨_, rt_, by first | exact Kd.R_nil _ _ _ _ _ | exact Kd.N_nil _ _ _ _ _ | exact Kd.V_nil _ _ _ _ _ | exact Kd.Q_nil _ _ _ _ _ | exact Kd.S_nil _ _ _ _ _, be1_ HB.o GE101.o⟩
end Go.Proofs.YtijmhelacmjggaaGreat.P
namespace Go.Proofs.YtijmhelacmjggaaGreat.P
open Go.RowKit Go.Proofs.YtijmhelacmjggaaGreatW.PrintWords Go.Proofs.YtijmhelacmjggaaGreatW.PrintLast Go.Proofs.YtijmhelacmjggaaGreatEv
set_option linter.unusedVariables false
set_option linter.unusedSimpArgs false
def isS (s y : ByteArray) : Bool := y.toList == s.toList
def addK (acc : List ByteArray) (x : S64) : List ByteArray := if acc.any (isS x.f0) = true then acc else acc ++ [x.f0]
def kindsR (acc : List ByteArray) (rs : List S64) : List ByteArray := rs.foldl addK acc
def kindsM (acc : List ByteArray) (g : List S62) : List ByteArray := g.foldl (fun a m => kindsR a m.f1) acc
def tokKinds (g : List S62) : List ByteArray := if grammarB g = true then kindsM [] g else []
theorem addK_length (acc : List ByteArray) (x : S64) : (addK acc x).length ≤ acc.length + 1 := by
  unfold addK
  split <;> simp
theorem kindsR_length (rs : List S64) : ∀ acc : List ByteArray, (kindsR acc rs).length ≤ acc.length + rs.length := by
  induction rs with
  | nil => intro acc; exact Nat.le_refl _
  | cons x xs ih =>
    intro acc
    have h1 := ih (addK acc x)
    have h2 := addK_length acc x
    simp only [kindsR, List.foldl_cons, List.length_cons] at h1 ⊢
    omega
theorem kindsR_take (acc : List ByteArray) (rs : List S64) (j : Nat) (h : j < rs.length) : kindsR acc (rs.take (j + 1)) = addK (kindsR acc (rs.take j)) (rd_T64 rs (j : Int)) := by
  have e : rd_T64 rs (j : Int) = rs[j] := by simp [rd_T64, h]
  unfold kindsR
  rw [List.take_succ_eq_append_getElem h, List.foldl_append, e]
  rfl
theorem kindsM_take (acc : List ByteArray) (g : List S62) (j : Nat) (h : j < g.length) : kindsM acc (g.take (j + 1)) = kindsR (kindsM acc (g.take j)) (rd_T62 g (j : Int)).f1 := by
  have e : rd_T62 g (j : Int) = g[j] := by simp [rd_T62, h]
  unfold kindsM
  rw [List.take_succ_eq_append_getElem h, List.foldl_append, e]
  rfl
theorem kindsM_length (g : List S62) (hg : smallG g) : ∀ i, i ≤ g.length → (kindsM [] (g.take i)).length ≤ 1048576 * i := by
  intro i
  induction i with
  | zero => intro _; simp [kindsM]
  | succ i ih =>
    intro h
    rw [kindsM_take [] g i (by omega)]
    have h1 := kindsR_length (rd_T62 g (i : Int)).f1 (kindsM [] (g.take i))
    have h2 := (hg.2 _ (rd_mode_mem g i (by omega))).2.1
    have := ih (by omega)
    omega
theorem tokKinds_length (g : List S62) (hg : smallG g) : (tokKinds g).length ≤ 1099511627776 := by
  unfold tokKinds
  split
  · have h := kindsM_length g hg g.length (Nat.le_refl _)
    rw [List.take_length] at h
    have := hg.1
    omega
  · simp
theorem spec_l20At_ev (l : List ByteArray) (s : ByteArray) (hl : l.length ≤ 9223372036854775807) : Ev (fun k => spec_l20At.f k l s) (idxP (isS s) l 0) := by
  unfold spec_l20At.f
  refine ev_congr (ev_loop l.length (fun k i => spec_l20At.l0 k l s (i : Nat)) (fun i => idxP (isS s) (l.drop i) (i : Nat)) ?_ ?_ 0 (by omega)) (by simp)
  · rw [ev_succ]
    simp only [spec_l20At.l0, ev_ite]
    rw [if_neg (by omega)]
    exact ev_some.2 (by simp [idxP])
  · intro i hi ih
    rw [ev_succ]
    simp only [spec_l20At.l0, ev_ite]
    rw [if_pos (by omega), if_pos (by omega), wrap_succ hi (by omega), drop_cons l ByteArray.empty i hi]
    have hr : l.getD i ByteArray.empty = rdOf ByteArray.empty l (i : Int) := by simp [rdOf]
    rw [hr]
    unfold idxP isS
    by_cases c : (rdOf ByteArray.empty l (i : Int)).toList = s.toList
    · rw [if_pos c, if_pos (by simpa using c)]
      exact ev_some.2 rfl
    · rw [if_neg c, if_neg (by simpa using c)]
      exact ih
theorem slices_IndexS_ev (l : List ByteArray) (s : ByteArray) (hl : l.length ≤ 9223372036854775807) : Ev (fun k => slices_Index_string_string.f k l s) (idxP (isS s) l 0) := by
  unfold slices_Index_string_string.f
  refine ev_congr (ev_loop l.length (fun k i => slices_Index_string_string.l0 k l s (l.length : Int) (i : Nat)) (fun i => idxP (isS s) (l.drop i) (i : Nat)) ?_ ?_ 0 (by omega)) (by simp)
  · rw [ev_succ]
    simp only [slices_Index_string_string.l0, ev_ite]
    rw [if_neg (by omega)]
    exact ev_some.2 (by simp [idxP])
  · intro i hi ih
    rw [ev_succ]
    simp only [slices_Index_string_string.l0, ev_ite]
    rw [if_pos (by omega), if_pos (by omega), if_pos (by omega), wrap_succ hi (by omega), drop_cons l ByteArray.empty i hi]
    have hr : l.getD i ByteArray.empty = rdOf ByteArray.empty l (i : Int) := by simp [rdOf]
    rw [hr]
    unfold idxP isS
    by_cases c : s.toList = (rdOf ByteArray.empty l (i : Int)).toList
    · rw [if_pos c, if_pos (by simpa using c.symm)]
      exact ev_some.2 rfl
    · rw [if_neg c, if_neg (by simpa using fun h => c h.symm)]
      exact ih
theorem slices_ContainsS_ev (l : List ByteArray) (s : ByteArray) (hl : l.length ≤ 9223372036854775807) : Ev (fun k => slices_Contains_string_string.f k l s) (l.any (isS s)) := by
  unfold slices_Contains_string_string.f
  rw [ev_bind (slices_IndexS_ev l s hl)]
  refine ev_some.2 ?_
  rw [Bool.eq_iff_iff, decide_eq_true_iff]
  exact idxP_ge (isS s) l 0 (by omega)
theorem spec_Kinds_l1_ev (g : List S62) (hg : smallG g) (i : Nat) (hi : i < g.length) (acc : List ByteArray) (ha : acc.length ≤ 1048576 * i) (R : List ByteArray) (ih : Ev (fun k => spec_Kinds.l0 k (kindsR acc (rd_T62 g (i : Int)).f1) ((i + 1 : Nat) : Int) g) R) : Ev (fun k => spec_Kinds.l1 k acc (i : Int) 0 g) R := by
  have hgl := hg.1
  have hrl := (hg.2 _ (rd_mode_mem g i hi)).2.1
  refine ev_loop (rd_T62 g (i : Int)).f1.length (fun k j => spec_Kinds.l1 k (kindsR acc ((rd_T62 g (i : Int)).f1.take j)) (i : Int) (j : Nat) g) (fun _ => R) ?_ ?_ 0 (by omega)
  · rw [ev_succ, List.take_length]
    simp only [spec_Kinds.l1, ev_ite]
    rw [if_pos (by omega), if_pos (by omega), if_neg (by omega), wrap_succ hi (by omega)]
    exact ih
  · intro j hj ihj
    have hlen := kindsR_length ((rd_T62 g (i : Int)).f1.take j) acc
    rw [List.length_take] at hlen
    rw [kindsR_take acc _ j hj] at ihj
    rw [ev_succ]
    simp only [spec_Kinds.l1, ev_ite]
    rw [if_pos (by omega), if_pos (by omega), if_pos (by omega), if_pos (by omega), wrap_succ hj (by omega), ev_bind (spec_l20At_ev _ _ (by omega))]
    simp only [ev_ite]
    unfold addK at ihj
    by_cases c : (kindsR acc ((rd_T62 g (i : Int)).f1.take j)).any (isS (rd_T64 (rd_T62 g (i : Int)).f1 (j : Int)).f0) = true
    · rw [if_pos c] at ihj
      have := (idxP_ge _ _ 0 (by omega)).2 c
      rw [if_neg (by omega)]
      exact ihj
    · rw [if_neg c] at ihj
      have : ¬ (0 ≤ idxP (isS (rd_T64 (rd_T62 g (i : Int)).f1 (j : Int)).f0) (kindsR acc ((rd_T62 g (i : Int)).f1.take j)) 0) := fun h => c ((idxP_ge _ _ 0 (by omega)).1 h)
      rw [if_pos (by omega), if_pos (by omega)]
      exact ihj
theorem spec_Kinds_ev (g : List S62) (hg : smallG g) : Ev (fun k => spec_Kinds.f k g) (tokKinds g) := by
  have hgl := hg.1
  unfold spec_Kinds.f tokKinds
  simp only [Option.bind_some]
  rw [ev_bind (spec_GrammarOk_ev g hg)]
  cases grammarB g
  · simp only [Bool.false_eq_true, if_false]
    exact ev_some.2 rfl
  simp only [if_true]
  refine ev_loop g.length (fun k i => spec_Kinds.l0 k (kindsM [] (g.take i)) (i : Nat) g) (fun _ => kindsM [] g) ?_ ?_ 0 (by omega)
  · rw [ev_succ, List.take_length]
    simp only [spec_Kinds.l0, ev_ite]
    rw [if_neg (by omega)]
    exact ev_some.2 rfl
  · intro i hi ih
    rw [ev_succ]
    simp only [spec_Kinds.l0, ev_ite]
    rw [if_pos (by omega)]
    rw [kindsM_take [] g i hi] at ih
    exact spec_Kinds_l1_ev g hg i hi _ (kindsM_length g hg i (by omega)) _ ih
theorem impl_Kinds_l1_ev (g : List S62) (hg : smallG g) (i : Nat) (hi : i < g.length) (acc : List ByteArray) (ha : acc.length ≤ 1048576 * i) (R : List ByteArray) (ih : Ev (fun k => impl_Kinds.l0 k (kindsR acc (rd_T62 g (i : Int)).f1) g (g.length : Int) ((i + 1 : Nat) : Int)) R) : Ev (fun k => impl_Kinds.l1 k acc g (g.length : Int) (i : Int) (rd_T62 g (i : Int)).f1 ((rd_T62 g (i : Int)).f1.length : Int) 0) R := by
  have hgl := hg.1
  have hrl := (hg.2 _ (rd_mode_mem g i hi)).2.1
  refine ev_loop (rd_T62 g (i : Int)).f1.length (fun k j => impl_Kinds.l1 k (kindsR acc ((rd_T62 g (i : Int)).f1.take j)) g (g.length : Int) (i : Int) (rd_T62 g (i : Int)).f1 ((rd_T62 g (i : Int)).f1.length : Int) (j : Nat)) (fun _ => R) ?_ ?_ 0 (by omega)
  · rw [ev_succ, List.take_length]
    simp only [impl_Kinds.l1, ev_ite]
    rw [if_neg (by omega), wrap_succ hi (by omega)]
    exact ih
  · intro j hj ihj
    have hlen := kindsR_length ((rd_T62 g (i : Int)).f1.take j) acc
    rw [List.length_take] at hlen
    rw [kindsR_take acc _ j hj] at ihj
    rw [ev_succ]
    simp only [impl_Kinds.l1, ev_ite]
    rw [if_pos (by omega), if_pos (by omega), if_pos (by omega), wrap_succ hj (by omega), ev_bind (slices_ContainsS_ev _ _ (by omega))]
    simp only [ev_ite]
    unfold addK at ihj
    by_cases c : (kindsR acc ((rd_T62 g (i : Int)).f1.take j)).any (isS (rd_T64 (rd_T62 g (i : Int)).f1 (j : Int)).f0) = true
    · rw [if_pos c] at ihj
      rw [if_pos c]
      exact ihj
    · rw [if_neg c] at ihj
      rw [if_neg c, if_pos (by omega)]
      exact ihj
theorem impl_Kinds_ev (g : List S62) (hg : smallG g) : Ev (fun k => impl_Kinds.f k g) (tokKinds g) := by
  have hgl := hg.1
  unfold impl_Kinds.f tokKinds
  simp only [impl_GrammarOk_eq g hg, Option.bind_some]
  cases grammarB g
  · simp only [Bool.false_eq_true, if_false]
    exact ev_some.2 rfl
  simp only [if_true]
  refine ev_loop g.length (fun k i => impl_Kinds.l0 k (kindsM [] (g.take i)) g (g.length : Int) (i : Nat)) (fun _ => kindsM [] g) ?_ ?_ 0 (by omega)
  · rw [ev_succ, List.take_length]
    simp only [impl_Kinds.l0, ev_ite]
    rw [if_neg (by omega)]
    exact ev_some.2 rfl
  · intro i hi ih
    rw [ev_succ]
    simp only [impl_Kinds.l0, ev_ite]
    rw [if_pos (by omega), if_pos (by omega), if_pos (by omega)]
    rw [kindsM_take [] g i hi] at ih
    exact impl_Kinds_l1_ev g hg i hi _ (kindsM_length g hg i (by omega)) _ ih
end Go.Proofs.YtijmhelacmjggaaGreat.P
namespace Go.Proofs.YtijmhelacmjggaaGreat.P
open Go.RowKit Go.Shelf Go.Proofs.YtijmhelacmjggaaGreatW.PrintWords Go.Proofs.YtijmhelacmjggaaGreatW.PrintLast Go.Proofs.YtijmhelacmjggaaGreatW.PrintMore Go.Proofs.YtijmhelacmjggaaGreatEv
set_option linter.unusedVariables false
set_option linter.unusedSimpArgs false
def itemB (last : Int) (x : S79) : Bool := decide (0 ≤ x.f0) && decide (1 ≤ x.f1 ∧ x.f1 ≤ 1000000000000) && decide (1 ≤ x.f2 ∧ x.f2 ≤ 1000000000000) && decide (last ≤ x.f1)
def itemsR : Int → List S79 → Bool
  | _, [] => true
  | last, x :: rest => itemB last x && itemsR x.f1 rest
def itemsB (l : List S79) : Bool := decide (l.length ≤ 5000) && itemsR 0 l
def lineAhead (l : List S79) (k : Nat) : Int := if k = 0 then 0 else (rd_T79 l ((k - 1 : Nat) : Int)).f1
theorem itemsR_step (l : List S79) (k : Nat) (h : k < l.length) : itemsR (lineAhead l k) (l.drop k) = (itemB (lineAhead l k) (rd_T79 l (k : Int)) && itemsR (lineAhead l (k + 1)) (l.drop (k + 1))) := by
  rw [drop_cons l z79 k h]
  have hr : l.getD k z79 = rd_T79 l (k : Int) := by simp [rd_T79]
  rw [hr]
  simp [itemsR, lineAhead]
theorem quiet_l1In {x lo hi : Int} {b : Bool} (h : spec_l1In.f x lo hi = some b) (W : World) (n : Nat) : Calls Tryz.prog 51 #[.int .i64 x, .int .i64 lo, .int .i64 hi] (W.drewN n) fun e w' => e = .returned (.bool b) ∧ ∃ m, w' = W.drewN m := by
  refine (spec_l1In.calls x lo hi b _ h).mono ?_
  rintro e w' ⟨rfl, ⟨nd, rfl⟩⟩
  exact ⟨rfl, _, World.drewN_drewN _ _ _⟩
theorem l16Items_hand (A0 : Option Addr) (c0 : Nat) (l0 : List S79) (w : World) (hr0 : Kd.C k79 w A0 l0.length l0) :
    Calls Tryz.prog 40 #[.slice A0 l0.length c0] w fun e w' => e = .returned (.bool (itemsB l0)) ∧ Below w.heap.size w w' := by
  have HR := q_ hr0
  have hn := hr0.2.1
  clear hr0
  have HB := q_ (Below.refl w.heap.size w)
  by_cases c2 : 5000 < l0.length
  · have c2b0 : decide (5000 < (l0.length : Int)) = true := decide_eq_true (by omega)
    have hf : itemsB l0 = false := by simp [itemsB]; intro h; omega
    rw [hf]
    clear hf c2
    go_enter Tryz.func40, Tryz.ntmps40
    go_wp2
    go_ret
    exact ⟨rfl, HB.o⟩
  · have c2b0 : decide (5000 < (l0.length : Int)) = false := decide_eq_false (by omega)
    have hf : J0 (itemsB l0 = itemsR (lineAhead l0 0) (l0.drop 0)) := ⟨by simp [itemsB, lineAhead]; intro _; omega⟩
    clear c2
    go_enter Tryz.func40, Tryz.ntmps40
    go_wp2
    go_loopg [3] l0.length (fun gg s3 wr => ∃ kk : Nat, kk ≤ l0.length ∧ l0.length - kk ≤ gg ∧ s3 = .int .i64 kk ∧ J0 (itemsB l0 = itemsR (lineAhead l0 kk) (l0.drop kk)) ∧ J0 (Below w.heap.size w wr))
    case atStart => exact ⟨0, Nat.zero_le _, by omega, rfl, hf, ⟨by repeat (first | (with_reducible exact HB.o) | apply pw_below_drewN | apply below_drew1)⟩⟩
    case round =>
      clear hf HB
      obtain ⟨kk, hkk, hg, rfl, HA, HB⟩ := hrel
      by_cases hlt : kk < l0.length
      · have hltz : (kk : Int) < (l0.length : Int) := by omega
        have hk0 : (0 : Int) ≤ (kk : Int) := by omega
        obtain ⟨ad, rfl, hx0, hx1, hx2⟩ := at_T79 HR.o (kk : Int) (by omega) hltz
        replace hx0 := (HB.o.cell (World.block_lt_of_cell? w _ hx0)).trans hx0
        replace hx1 := (HB.o.cell (World.block_lt_of_cell? w _ hx1)).trans hx1
        replace hx2 := (HB.o.cell (World.block_lt_of_cell? w _ hx2)).trans hx2
        rw [Int.toNat_natCast] at hx0 hx1 hx2
        have hs := HA.o.trans (itemsR_step l0 kk hlt)
        clear HA
        have hn1 : lineAhead l0 (kk + 1) = (rd_T79 l0 (kk : Int)).f1 := by simp [lineAhead]
        have hp : J0 (0 < kk → lineAhead l0 kk = (rd_T79 l0 ((kk : Int) - 1)).f1) := ⟨fun h => by unfold lineAhead; rw [if_neg (by omega), show ((kk - 1 : Nat) : Int) = (kk : Int) - 1 by omega]⟩
        have hz0 : kk = 0 → lineAhead l0 kk = 0 := fun h => by simp [lineAhead, h]
        unfold itemB at hs
        rw [hn1] at hs
        generalize hy0 : (rd_T79 l0 (kk : Int)).f0 = y0 at *
        generalize hy1 : (rd_T79 l0 (kk : Int)).f1 = y1 at *
        generalize hy2 : (rd_T79 l0 (kk : Int)).f2 = y2 at *
        clear hy0 hy1 hy2
        generalize hrest : itemsR y1 (l0.drop (kk + 1)) = rest at *
        have HI := q_ (spec_l1In_eq y1 1 1000000000000)
        have HJ := q_ (spec_l1In_eq y2 1 1000000000000)
        by_cases c3 : y0 < 0
        · have c3b : decide (y0 < 0) = true := dt_ c3
          have hs2 : J0 (itemsB l0 = false) := ⟨by rw [hs, decide_eq_false (by omega)]; rfl⟩
          clear hs HI HJ c3 hn1 hp hz0 hrest
          go_wp2_with fail
          go_quiet (fail)
          go_wp2_with fail
          go_ret
          exact ⟨by rw [hs2.o]; rfl, by repeat (first | (with_reducible exact HB.o) | apply below_alloc | apply pw_below_drewN | apply below_drew1)⟩
        have c3b : decide (y0 < 0) = false := df_ c3
        rw [decide_eq_true (show 0 ≤ y0 by omega), Bool.true_and] at hs
        clear c3
        cases hb1 : decide (1 ≤ y1 ∧ y1 ≤ 1000000000000)
        · rw [hb1] at HI hs
          have hs2 : J0 (itemsB l0 = false) := ⟨by rw [hs]; rfl⟩
          clear hs HJ hb1 hn1 hp hz0 hrest
          go_wp2_with fail
          go_quiet ((go_at_call 51; with_reducible exact quiet_l1In HI.o _ _))
          go_wp2_with fail
          go_ret
          exact ⟨by rw [hs2.o]; rfl, by repeat (first | (with_reducible exact HB.o) | apply below_alloc | apply pw_below_drewN | apply below_drew1)⟩
        rw [hb1] at HI hs
        have hy1 := of_decide_eq_true hb1
        clear hb1
        rw [Bool.true_and] at hs
        cases hb2 : decide (1 ≤ y2 ∧ y2 ≤ 1000000000000)
        · rw [hb2] at HJ hs
          have hs2 : J0 (itemsB l0 = false) := ⟨by rw [hs]; rfl⟩
          clear hs hb2 hn1 hp hz0 hy1 hrest
          go_wp2_with fail
          go_quiet (first | (go_at_call 51; with_reducible exact quiet_l1In HI.o _ _) | (go_at_call 51; with_reducible exact quiet_l1In HJ.o _ _))
          go_wp2_with fail
          go_ret
          exact ⟨by rw [hs2.o]; rfl, by repeat (first | (with_reducible exact HB.o) | apply below_alloc | apply pw_below_drewN | apply below_drew1)⟩
        rw [hb2] at HJ hs
        clear hb2
        rw [Bool.true_and] at hs
        by_cases h0 : kk = 0
        · have hz : decide (0 < (kk : Int)) = false := decide_eq_false (by omega)
          have hzn : decide (0 < kk) = false := decide_eq_false (by omega)
          have hs2 : J0 (itemsB l0 = itemsR (lineAhead l0 (kk + 1)) (l0.drop (kk + 1))) := ⟨by rw [hs, hz0 h0, decide_eq_true (show (0 : Int) ≤ y1 by omega), Bool.true_and, hn1, hrest]⟩
          clear hs hn1 hp hz0 hy1 h0 hrest
          go_wp2_with fail
          go_quiet (first | (go_at_call 51; with_reducible exact quiet_l1In HI.o _ _) | (go_at_call 51; with_reducible exact quiet_l1In HJ.o _ _))
          go_wp2_with fail
          go_roundg (l0.length - (kk + 1))
          case measure => omega
          case rel => exact ⟨kk + 1, by omega, by omega, by go_num, hs2, ⟨by repeat (first | (with_reducible exact HB.o) | apply below_alloc | apply pw_below_drewN | apply below_drew1)⟩⟩
        have hz : decide (0 < (kk : Int)) = true := decide_eq_true (by omega)
        have hzn : decide (0 < kk) = true := decide_eq_true (by omega)
        have hm : (kk : Int) - 1 < (l0.length : Int) := by omega
        have hm0 : 0 ≤ (kk : Int) - 1 := by omega
        obtain ⟨ad2, e2, hv0, hv1, hv2⟩ := at_T79 HR.o ((kk : Int) - 1) hm0 hm
        cases e2
        rw [show ((kk : Int) - 1).toNat = kk - 1 by omega] at hv1
        replace hv1 := (HB.o.cell (World.block_lt_of_cell? w _ hv1)).trans hv1
        clear hv0 hv2
        have hvb := World.block_lt_of_cell? wr _ hv1
        have hva : (wr.alloc (.cells #[.int .i64 y0, .int .i64 y1, .int .i64 y2] 79)).cell? ⟨(ad.add ((kk - 1) * 3)).block, (ad.add ((kk - 1) * 3)).off + 1, none⟩ = some (.int .i64 (rd_T79 l0 ((kk : Int) - 1)).f1) := ((below_alloc (Below.refl _ _) _ : Below wr.heap.size wr _).cell hvb).trans hv1
        rw [hp.o (by omega)] at hs
        generalize (rd_T79 l0 ((kk : Int) - 1)).f1 = y3 at *
        have hwr : IntKind.i64.wrap ((kk : Int) - 1) = (kk : Int) - 1 := by rw [i64_w]; exact wrap_id (by omega) (by omega)
        have g1 : 1 ≤ (kk : Int) := by omega
        have g2 : 1 ≤ kk := by omega
        have g3 : 0 < kk := by omega
        have g4 := eq_true hm
        have g5 := eq_true hm0
        by_cases c5 : y1 < y3
        · have c5b : decide (y1 < y3) = true := dt_ c5
          have hs2 : J0 (itemsB l0 = false) := ⟨by rw [hs, decide_eq_false (by omega)]; rfl⟩
          clear hs hn1 hp hz0 hy1 h0 hrest c5
          go_wp2_with fail
          go_quiet (first | (go_at_call 51; with_reducible exact quiet_l1In HI.o _ _) | (go_at_call 51; with_reducible exact quiet_l1In HJ.o _ _))
          go_wp2_with fail
          go_ret
          exact ⟨by rw [hs2.o]; rfl, by repeat (first | (with_reducible exact HB.o) | apply below_alloc | apply pw_below_drewN | apply below_drew1)⟩
        have c5b : decide (y1 < y3) = false := df_ c5
        have hs2 : J0 (itemsB l0 = itemsR (lineAhead l0 (kk + 1)) (l0.drop (kk + 1))) := ⟨by rw [hs, decide_eq_true (show y3 ≤ y1 by omega), Bool.true_and, hn1, hrest]⟩
        clear hs hn1 hp hz0 hy1 h0 hrest c5
        go_wp2_with fail
        go_quiet (first | (go_at_call 51; with_reducible exact quiet_l1In HI.o _ _) | (go_at_call 51; with_reducible exact quiet_l1In HJ.o _ _))
        go_wp2_with fail
        go_roundg (l0.length - (kk + 1))
        case measure => omega
        case rel => exact ⟨kk + 1, by omega, by omega, by go_num, hs2, ⟨by repeat (first | (with_reducible exact HB.o) | apply below_alloc | apply pw_below_drewN | apply below_drew1)⟩⟩
      · have hltz : ¬ (kk : Int) < (l0.length : Int) := by omega
        have hk : kk = l0.length := by omega
        have hs2 : J0 (itemsB l0 = true) := ⟨by rw [HA.o, hk, List.drop_length]; rfl⟩
        clear hk HA
        go_wp2
        go_ret
        exact ⟨by rw [hs2.o]; rfl, by repeat (first | (with_reducible exact HB.o) | apply below_alloc | apply pw_below_drewN | apply below_drew1)⟩
end Go.Proofs.YtijmhelacmjggaaGreat.P
namespace Go.Proofs.YtijmhelacmjggaaGreat.P
open Go.RowKit Go.Proofs.YtijmhelacmjggaaGreatW.PrintWords Go.Proofs.YtijmhelacmjggaaGreatW.PrintLast Go.Proofs.YtijmhelacmjggaaGreatW.PrintMore
attribute [local go_sem] max2_int min2_int max_two min_two max_three min_three max_four min_four
set_option linter.unusedVariables false
set_option linter.unusedSimpArgs false
/-! ### spec_l16Items: function 40 -/
def spec_l16Items.f (l0 : List (S79)) : Option (Bool) := some (itemsB l0)
theorem spec_l16Items.calls (A0 : Option Addr) (c0 : Nat) (l0 : List (S79)) (r : Bool) (w : World) (hr0 : Kd.C k79 w A0 l0.length l0) (hc0 : l0.length ≤ c0) (h : spec_l16Items.f l0 = some r) :
    Calls Tryz.prog 40 #[.slice A0 l0.length c0] w fun e w' => e = .returned (.bool r) ∧ Below w.heap.size w w' := by
  obtain rfl := Option.some.inj h
  exact l16Items_hand A0 c0 l0 w hr0
end Go.Proofs.YtijmhelacmjggaaGreat.P
namespace Go.Proofs.YtijmhelacmjggaaGreat.P
open Go.RowKit Go.Proofs.YtijmhelacmjggaaGreatW.PrintWords Go.Proofs.YtijmhelacmjggaaGreatW.PrintLast Go.Proofs.YtijmhelacmjggaaGreatEv
set_option linter.unusedVariables false
set_option linter.unusedSimpArgs false
theorem spec_l16Items_ev (l : List S79) : Ev (fun _ => spec_l16Items.f l) (itemsB l) := ev_some.2 rfl
end Go.Proofs.YtijmhelacmjggaaGreat.P
namespace Go.Proofs.YtijmhelacmjggaaGreat.P
open Go.RowKit Go.Shelf Go.Proofs.YtijmhelacmjggaaGreatW.PrintWords Go.Proofs.YtijmhelacmjggaaGreatW.PrintLast Go.Proofs.YtijmhelacmjggaaGreatW.PrintMore Go.Proofs.YtijmhelacmjggaaGreatEv
set_option linter.unusedVariables false
set_option linter.unusedSimpArgs false
theorem quiet_within {x lo hi : Int} {b : Bool} (h : impl_within.f x lo hi = some b) (W : World) (n : Nat) : Calls Tryz.prog 56 #[.int .i64 x, .int .i64 lo, .int .i64 hi] (W.drewN n) fun e w' => e = .returned (.bool b) ∧ ∃ m, w' = W.drewN m := by
  refine (impl_within.calls x lo hi b _ h).mono ?_
  rintro e w' ⟨rfl, ⟨nd, rfl⟩⟩
  exact ⟨rfl, _, World.drewN_drewN _ _ _⟩
theorem itemsOk_hand (A0 : Option Addr) (c0 : Nat) (l0 : List S79) (w : World) (hr0 : Kd.C k79 w A0 l0.length l0) :
    Calls Tryz.prog 47 #[.slice A0 l0.length c0] w fun e w' => e = .returned (.bool (itemsB l0)) ∧ Below w.heap.size w w' := by
  have HR := q_ hr0
  have hn := hr0.2.1
  clear hr0
  have HB := q_ (Below.refl w.heap.size w)
  · have hf : J0 (itemsB l0 = (decide (l0.length ≤ 5000) && itemsR (lineAhead l0 0) (l0.drop 0))) := ⟨by simp [itemsB, lineAhead]⟩
    go_enter Tryz.func47, Tryz.ntmps47
    go_wp2
    go_loopg [7] l0.length (fun gg s3 wr => ∃ kk : Nat, kk ≤ l0.length ∧ l0.length - kk ≤ gg ∧ s3 = .int .i64 kk ∧ J0 (itemsB l0 = (decide (l0.length ≤ 5000) && itemsR (lineAhead l0 kk) (l0.drop kk))) ∧ J0 (Below w.heap.size w wr))
    case atStart => exact ⟨0, Nat.zero_le _, by omega, rfl, hf, ⟨by repeat (first | (with_reducible exact HB.o) | apply pw_below_drewN | apply below_drew1)⟩⟩
    case round =>
      clear hf HB
      obtain ⟨kk, hkk, hg, rfl, HA, HB⟩ := hrel
      by_cases hlt : kk < l0.length
      · have hltz : (kk : Int) < (l0.length : Int) := by omega
        have hk0 : (0 : Int) ≤ (kk : Int) := by omega
        obtain ⟨ad, rfl, hx0, hx1, hx2⟩ := at_T79 HR.o (kk : Int) (by omega) hltz
        replace hx0 := (HB.o.cell (World.block_lt_of_cell? w _ hx0)).trans hx0
        replace hx1 := (HB.o.cell (World.block_lt_of_cell? w _ hx1)).trans hx1
        replace hx2 := (HB.o.cell (World.block_lt_of_cell? w _ hx2)).trans hx2
        rw [Int.toNat_natCast] at hx0 hx1 hx2
        have hs := HA.o.trans (show (decide (l0.length ≤ 5000) && itemsR (lineAhead l0 kk) (l0.drop kk)) = (decide (l0.length ≤ 5000) && (itemB (lineAhead l0 kk) (rd_T79 l0 (kk : Int)) && itemsR (lineAhead l0 (kk + 1)) (l0.drop (kk + 1)))) by rw [itemsR_step l0 kk hlt])
        clear HA
        have hn1 : lineAhead l0 (kk + 1) = (rd_T79 l0 (kk : Int)).f1 := by simp [lineAhead]
        have hp : J0 (0 < kk → lineAhead l0 kk = (rd_T79 l0 ((kk : Int) - 1)).f1) := ⟨fun h => by unfold lineAhead; rw [if_neg (by omega), show ((kk - 1 : Nat) : Int) = (kk : Int) - 1 by omega]⟩
        have hz0 : kk = 0 → lineAhead l0 kk = 0 := fun h => by simp [lineAhead, h]
        unfold itemB at hs
        rw [hn1] at hs
        generalize hy0 : (rd_T79 l0 (kk : Int)).f0 = y0 at *
        generalize hy1 : (rd_T79 l0 (kk : Int)).f1 = y1 at *
        generalize hy2 : (rd_T79 l0 (kk : Int)).f2 = y2 at *
        clear hy0 hy1 hy2
        generalize hrest : itemsR y1 (l0.drop (kk + 1)) = rest at *
        have HI := q_ (impl_within_eq y1 1 1000000000000)
        have HJ := q_ (impl_within_eq y2 1 1000000000000)
        by_cases c3 : y0 < 0
        · have c3b : decide (y0 < 0) = true := dt_ c3
          have hs2 : J0 (itemsB l0 = false) := ⟨by rw [hs, decide_eq_false (show ¬ 0 ≤ y0 by omega)]; simp⟩
          clear hs HI HJ c3 hn1 hp hz0 hrest
          go_wp2_with fail
          go_quiet (fail)
          go_wp2_with fail
          go_ret
          exact ⟨by rw [hs2.o]; rfl, by repeat (first | (with_reducible exact HB.o) | apply below_alloc | apply pw_below_drewN | apply below_drew1)⟩
        have c3b : decide (y0 < 0) = false := df_ c3
        rw [decide_eq_true (show 0 ≤ y0 by omega), Bool.true_and] at hs
        clear c3
        cases hb1 : decide (1 ≤ y1 ∧ y1 ≤ 1000000000000)
        · rw [hb1] at HI hs
          have hs2 : J0 (itemsB l0 = false) := ⟨by rw [hs]; simp⟩
          clear hs HJ hb1 hn1 hp hz0 hrest
          go_wp2_with fail
          go_quiet ((go_at_call 56; with_reducible exact quiet_within HI.o _ _))
          go_wp2_with fail
          go_ret
          exact ⟨by rw [hs2.o]; rfl, by repeat (first | (with_reducible exact HB.o) | apply below_alloc | apply pw_below_drewN | apply below_drew1)⟩
        rw [hb1] at HI hs
        have hy1 := of_decide_eq_true hb1
        clear hb1
        rw [Bool.true_and] at hs
        cases hb2 : decide (1 ≤ y2 ∧ y2 ≤ 1000000000000)
        · rw [hb2] at HJ hs
          have hs2 : J0 (itemsB l0 = false) := ⟨by rw [hs]; simp⟩
          clear hs hb2 hn1 hp hz0 hy1 hrest
          go_wp2_with fail
          go_quiet (first | (go_at_call 56; with_reducible exact quiet_within HI.o _ _) | (go_at_call 56; with_reducible exact quiet_within HJ.o _ _))
          go_wp2_with fail
          go_ret
          exact ⟨by rw [hs2.o]; rfl, by repeat (first | (with_reducible exact HB.o) | apply below_alloc | apply pw_below_drewN | apply below_drew1)⟩
        rw [hb2] at HJ hs
        clear hb2
        rw [Bool.true_and] at hs
        by_cases h0 : kk = 0
        · have hz : decide (0 < (kk : Int)) = false := decide_eq_false (by omega)
          have hzn : decide (0 < kk) = false := decide_eq_false (by omega)
          have hs2 : J0 (itemsB l0 = (decide (l0.length ≤ 5000) && itemsR (lineAhead l0 (kk + 1)) (l0.drop (kk + 1)))) := ⟨by rw [hs, hz0 h0, decide_eq_true (show (0 : Int) ≤ y1 by omega), Bool.true_and, hn1, hrest]⟩
          clear hs hn1 hp hz0 hy1 h0 hrest
          go_wp2_with fail
          go_quiet (first | (go_at_call 56; with_reducible exact quiet_within HI.o _ _) | (go_at_call 56; with_reducible exact quiet_within HJ.o _ _))
          go_wp2_with fail
          go_roundg (l0.length - (kk + 1))
          case measure => omega
          case rel => exact ⟨kk + 1, by omega, by omega, by go_num, hs2, ⟨by repeat (first | (with_reducible exact HB.o) | apply below_alloc | apply pw_below_drewN | apply below_drew1)⟩⟩
        have hz : decide (0 < (kk : Int)) = true := decide_eq_true (by omega)
        have hzn : decide (0 < kk) = true := decide_eq_true (by omega)
        have hm : (kk : Int) - 1 < (l0.length : Int) := by omega
        have hm0 : 0 ≤ (kk : Int) - 1 := by omega
        obtain ⟨ad2, e2, hv0, hv1, hv2⟩ := at_T79 HR.o ((kk : Int) - 1) hm0 hm
        cases e2
        rw [show ((kk : Int) - 1).toNat = kk - 1 by omega] at hv1
        replace hv1 := (HB.o.cell (World.block_lt_of_cell? w _ hv1)).trans hv1
        clear hv0 hv2
        have hvb := World.block_lt_of_cell? wr _ hv1
        have hva : (wr.alloc (.cells #[.int .i64 y0, .int .i64 y1, .int .i64 y2] 79)).cell? ⟨(ad.add ((kk - 1) * 3)).block, (ad.add ((kk - 1) * 3)).off + 1, none⟩ = some (.int .i64 (rd_T79 l0 ((kk : Int) - 1)).f1) := ((below_alloc (Below.refl _ _) _ : Below wr.heap.size wr _).cell hvb).trans hv1
        rw [hp.o (by omega)] at hs
        generalize (rd_T79 l0 ((kk : Int) - 1)).f1 = y3 at *
        have hwr : IntKind.i64.wrap ((kk : Int) - 1) = (kk : Int) - 1 := by rw [i64_w]; exact wrap_id (by omega) (by omega)
        have g1 : 1 ≤ (kk : Int) := by omega
        have g2 : 1 ≤ kk := by omega
        have g3 : 0 < kk := by omega
        have g4 := eq_true hm
        have g5 := eq_true hm0
        by_cases c5 : y1 < y3
        · have c5b : decide (y1 < y3) = true := dt_ c5
          have hs2 : J0 (itemsB l0 = false) := ⟨by rw [hs, decide_eq_false (show ¬ y3 ≤ y1 by omega)]; simp⟩
          clear hs hn1 hp hz0 hy1 h0 hrest c5
          go_wp2_with fail
          go_quiet (first | (go_at_call 56; with_reducible exact quiet_within HI.o _ _) | (go_at_call 56; with_reducible exact quiet_within HJ.o _ _))
          go_wp2_with fail
          go_ret
          exact ⟨by rw [hs2.o]; rfl, by repeat (first | (with_reducible exact HB.o) | apply below_alloc | apply pw_below_drewN | apply below_drew1)⟩
        have c5b : decide (y1 < y3) = false := df_ c5
        have hs2 : J0 (itemsB l0 = (decide (l0.length ≤ 5000) && itemsR (lineAhead l0 (kk + 1)) (l0.drop (kk + 1)))) := ⟨by rw [hs, decide_eq_true (show y3 ≤ y1 by omega), Bool.true_and, hn1, hrest]⟩
        clear hs hn1 hp hz0 hy1 h0 hrest c5
        go_wp2_with fail
        go_quiet (first | (go_at_call 56; with_reducible exact quiet_within HI.o _ _) | (go_at_call 56; with_reducible exact quiet_within HJ.o _ _))
        go_wp2_with fail
        go_roundg (l0.length - (kk + 1))
        case measure => omega
        case rel => exact ⟨kk + 1, by omega, by omega, by go_num, hs2, ⟨by repeat (first | (with_reducible exact HB.o) | apply below_alloc | apply pw_below_drewN | apply below_drew1)⟩⟩
      · have hltz : ¬ (kk : Int) < (l0.length : Int) := by omega
        have hk : kk = l0.length := by omega
        have hs2 : J0 (itemsB l0 = decide (l0.length ≤ 5000)) := ⟨by rw [HA.o, hk, List.drop_length]; simp [itemsR]⟩
        clear hk HA
        by_cases c6 : l0.length ≤ 5000
        · have c6a : decide ((l0.length : Int) ≤ 5000) = true := decide_eq_true (by omega)
          rw [decide_eq_true c6] at hs2
          have c6b : decide (l0.length ≤ 5000) = true := dt_ c6
          clear c6
          go_wp2
          go_ret
          exact ⟨by rw [hs2.o]; rfl, by repeat (first | (with_reducible exact HB.o) | apply below_alloc | apply pw_below_drewN | apply below_drew1)⟩
        · have c6a : decide ((l0.length : Int) ≤ 5000) = false := decide_eq_false (by omega)
          rw [decide_eq_false c6] at hs2
          have c6b : decide (l0.length ≤ 5000) = false := df_ c6
          clear c6
          go_wp2
          go_ret
          exact ⟨by rw [hs2.o]; rfl, by repeat (first | (with_reducible exact HB.o) | apply below_alloc | apply pw_below_drewN | apply below_drew1)⟩
end Go.Proofs.YtijmhelacmjggaaGreat.P
namespace Go.Proofs.YtijmhelacmjggaaGreat.P
open Go.RowKit Go.Proofs.YtijmhelacmjggaaGreatW.PrintWords Go.Proofs.YtijmhelacmjggaaGreatW.PrintLast Go.Proofs.YtijmhelacmjggaaGreatW.PrintMore
attribute [local go_sem] max2_int min2_int max_two min_two max_three min_three max_four min_four
set_option linter.unusedVariables false
set_option linter.unusedSimpArgs false
/-! ### impl_itemsOk: function 47 -/
def impl_itemsOk.f (l0 : List (S79)) : Option (Bool) := some (itemsB l0)
theorem impl_itemsOk.calls (A0 : Option Addr) (c0 : Nat) (l0 : List (S79)) (r : Bool) (w : World) (hr0 : Kd.C k79 w A0 l0.length l0) (hc0 : l0.length ≤ c0) (h : impl_itemsOk.f l0 = some r) :
    Calls Tryz.prog 47 #[.slice A0 l0.length c0] w fun e w' => e = .returned (.bool r) ∧ Below w.heap.size w w' := by
  obtain rfl := Option.some.inj h
  exact itemsOk_hand A0 c0 l0 w hr0
end Go.Proofs.YtijmhelacmjggaaGreat.P
namespace Go.Proofs.YtijmhelacmjggaaGreat.P
open Go.RowKit Go.Proofs.YtijmhelacmjggaaGreatW.PrintWords Go.Proofs.YtijmhelacmjggaaGreatW.PrintLast Go.Proofs.YtijmhelacmjggaaGreatEv
set_option linter.unusedVariables false
set_option linter.unusedSimpArgs false
theorem impl_itemsOk_ev (l : List S79) (_hl : l.length ≤ 9223372036854775807) : Ev (fun _ => impl_itemsOk.f l) (itemsB l) := ev_some.2 rfl
end Go.Proofs.YtijmhelacmjggaaGreat.P
