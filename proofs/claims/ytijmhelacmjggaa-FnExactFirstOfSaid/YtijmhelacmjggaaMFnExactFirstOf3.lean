/- The law FnExactFirstOf holds for every call: part 4 of 6 of the proof (walks of functions, and what they answer). Conditions: none beyond what the given row says. -/
import Derived.Test.YtijmhelacmjggaaMFnExactFirstOf0
import Derived.Test.YtijmhelacmjggaaMFnExactFirstOf2
import Derived.Test.YtijmhelacmjggaaMFnExactFirstOf1
set_option maxHeartbeats 16000000
set_option maxRecDepth 100000
namespace Go.Proofs.Ytijmhelacmjggaa.P
open Go.RowKit Go.Shelf Go.Proofs.YtijmhelacmjggaaW.PrintWords Go.Proofs.YtijmhelacmjggaaW.PrintLast Go.Proofs.YtijmhelacmjggaaW.PrintMore Go.Proofs.YtijmhelacmjggaaEv
set_option linter.unusedVariables false
set_option linter.unusedSimpArgs false
theorem find_times {w0 : World} {gm gg cn : Nat} {An : Option Addr} {nodes : List S156} {tx : ByteArray} {E : Nat → Bool} (ht : tx.size = 0) (hn : nodes.length ≤ 100000) (k : Nat) (hk1 : k < nodes.length) (hN : Kd.C k156 w0 An nodes.length nodes) (hop : (rd_T156 nodes (k : Int)).f0 = 8) (hlen : (rd_T156 nodes (k : Int)).f2.length = 1) (k0 : Nat) (e0 : rd (rd_T156 nodes (k : Int)).f2 0 = (k0 : Int)) (he0 : EOK w0 gm gg An cn nodes tx E k0) (hmi : 0 ≤ (rd_T156 nodes (k : Int)).f3 ∧ (rd_T156 nodes (k : Int)).f3 ≤ 1000) (hma : (rd_T156 nodes (k : Int)).f4 ≤ 1000) (hE : E k = (decide ((rd_T156 nodes (k : Int)).f3 = 0) || E k0)) : FOK w0 gm gg An cn nodes tx E k := by
  intro w hM hB
  obtain ⟨ad, A1, c1, A2, c2, rfl, hx0, hx1, hx2, hx3, hx4, _, _, hc2, hC2⟩ := at_T156 hN (k : Int) (by omega) (by omega)
  rw [Int.toNat_natCast] at hx0 hx1 hx2 hx3 hx4
  replace hx0 := (hB.cell (World.block_lt_of_cell? w0 _ hx0)).trans hx0; replace hx1 := (hB.cell (World.block_lt_of_cell? w0 _ hx1)).trans hx1; replace hx2 := (hB.cell (World.block_lt_of_cell? w0 _ hx2)).trans hx2; replace hx3 := (hB.cell (World.block_lt_of_cell? w0 _ hx3)).trans hx3; replace hx4 := (hB.cell (World.block_lt_of_cell? w0 _ hx4)).trans hx4
  obtain ⟨x, hxd⟩ : ∃ x, rd_T156 nodes (k : Int) = x := ⟨_, rfl⟩
  rw [hxd] at hx0 hx1 hx2 hx3 hx4 hc2 hC2 hop hlen e0 hmi hma hE
  rw [hop] at hx0
  clear hxd
  obtain ⟨ad2, rfl, hkc0⟩ := Kd.at_int hC2 0 (by omega) (by rw [hlen]; decide)
  rw [e0] at hkc0
  rw [show (0 : Int).toNat = 0 from rfl] at hkc0
  rw [hlen] at hx2
  clear hC2 hc2 hlen; obtain ⟨cg, hG, hcg, hgm⟩ := Memo.head hM
  have hm0 : w.cell? ⟨gm, 0, none⟩ = some (.slice (some ad) nodes.length cn) := (blk_cell hG 0).trans rfl
  have hm1 : w.cell? ⟨gm, 1, none⟩ = some (.string tx) := (blk_cell hG 1).trans rfl
  have ha1 : (w.alloc (.cells #[.int .i64 8, .slice A1 x.f1.length c1, .slice (some ad2) 1 c2, .int .i64 x.f3, .int .i64 x.f4] 156)).cell? ⟨gm, 1, none⟩ = some (.string tx) := (blk_cell (blk_alloc hG _) 1).trans rfl
  have hkz : (k : Int) < (nodes.length : Int) := by omega
  have hk0 : (0 : Int) ≤ (k : Int) := by omega
  obtain ⟨gn, hgn⟩ : ∃ gn, w.heap.size = gn := ⟨_, rfl⟩
  have HGN : J0 (gn ≠ gg) := ⟨by have := Memo.gg_lt hM; omega⟩
  have BN : J0 ((w.alloc (.cells #[.int .i64 8, .slice A1 x.f1.length c1, .slice (some ad2) 1 c2, .int .i64 x.f3, .int .i64 x.f4] 156)).heap[gn]? = some (.cells #[.int .i64 8, .slice A1 x.f1.length c1, .slice (some ad2) 1 c2, .int .i64 x.f3, .int .i64 x.f4] 156 (0, 0))) := ⟨by rw [← hgn]; exact blk_new w _⟩
  have HK := q_ (MK.below (gg := gg) (below_alloc (Below.refl w.heap.size w) (.cells #[.int .i64 8, .slice A1 x.f1.length c1, .slice (some ad2) 1 c2, .int .i64 x.f3, .int .i64 x.f4] 156))); have HB := q_ (below_alloc hB (.cells #[.int .i64 8, .slice A1 x.f1.length c1, .slice (some ad2) 1 c2, .int .i64 x.f3, .int .i64 x.f4] 156)); have HM := q_ (Memo.below hM (below_alloc (Below.refl w.heap.size w) (.cells #[.int .i64 8, .slice A1 x.f1.length c1, .slice (some ad2) 1 c2, .int .i64 x.f3, .int .i64 x.f4] 156))); have HE := q_ hE; clear hG hM hB hE
  go_enter Try.func157, Try.ntmps157
  go_upto_region 5 with (first | ((with_reducible refine gate_dst (N := 26) rfl ?_); refine Kd.R_make Kd.bool _ 4 rfl (N := 26) rfl 124 _ _ rfl (1 : Int) rfl rfl Try.underlying124 (.bool false) 1 info4 rfl (by decide) (by omega) false (ok := fun _ => True) (okp := fun _ => True) rfl (fun _ hk => hk) trivial (by omega) (by decide) (Below.refl _ _) (Nat.le_refl _) ?_; intro H8v w_ ho hb hg_ hnew_; clear hg_; replace ho : Kd.R Kd.bool 4 w_ _ (fun _ => True) H8v [false] := ho; have H8 := q_ (Row.new ho HB.o (Memo.gg_lt HM.o)); have nBN := q_ (blk_below BN.o hb); clear BN; have BN := nBN; clear nBN; have nM := q_ (Memo.below HM.o hb); have nB := q_ (below_step HB.o hb); have nK := q_ (HK.o.trans (MK.below hb)); clear HM HB HK ho hb hnew_; have HM := nM; have HB := nB; have HK := nK; clear nM nB nK; obtain ⟨cg_, hG_, _, _⟩ := Memo.head HM.o; have ha2 : w_.cell? ⟨gm, 1, none⟩ = some (.string tx) := (blk_cell hG_ 1).trans rfl; clear hG_) | ((with_reducible refine gate_dst (N := 33) rfl ?_); refine Kd.R_make Kd.bool _ 4 rfl (N := 33) rfl 124 _ _ rfl (1 : Int) rfl rfl Try.underlying124 (.bool false) 1 info4 rfl (by decide) (by omega) false (ok := fun _ => True) (okp := fun _ => True) rfl (fun _ hk => hk) trivial (by omega) (by decide) (Below.refl _ _) (Nat.le_refl _) ?_; intro H9v w_ ho hb hg_ hnew_; clear hg_; replace ho : Kd.R Kd.bool 4 w_ _ (fun _ => True) H9v [false] := ho; have H9 := q_ (Row.new ho HB.o (Memo.gg_lt HM.o)); have HX1 : ∃ W1 : World, Memo w0 gm gg (some ad) cn nodes tx E W1 ∧ Row w0 W1 gg H8v false ∧ W1.heap[gn]? = some (.cells #[.int .i64 8, .slice A1 x.f1.length c1, .slice (some ad2) 1 c2, .int .i64 x.f3, .int .i64 x.f4] 156 (0, 0)) ∧ Below W1.heap.size W1 w_ ∧ (∃ b_, H9v.ownBlock = some b_ ∧ W1.heap.size ≤ b_) ∧ Below w0.heap.size w0 W1 ∧ MK gg w W1 := ⟨_, HM.o, H8.o, BN.o, hb, hnew_, HB.o, HK.o⟩; have nH8 := q_ (Row.keep H8.o (MK.below hb)); clear H8; have H8 := nH8; clear nH8; have nBN := q_ (blk_below BN.o hb); clear BN; have BN := nBN; clear nBN; have nM := q_ (Memo.below HM.o hb); have nB := q_ (below_step HB.o hb); have nK := q_ (HK.o.trans (MK.below hb)); clear HM HB HK ho hb hnew_; have HM := nM; have HB := nB; have HK := nK; clear nM nB nK; obtain ⟨H9g, H9c, rfl, H9h⟩ := Row.form H9.o; have hx9 := Row.cell H9.o; have hf9 := Row.frozen H9.o))
  obtain ⟨W1, hM1, h81, hBN1, hb1, ⟨g9', e9, hg9⟩, hB1, hK1⟩ := HX1
  obtain rfl : H9g = g9' := by simpa [Value.ownBlock] using e9
  have Hbs := below_set hb1 hg9 (j := 0) (v := .bool true); have nH9 := q_ ((Kd.R_put H9.o 0 true).1); clear H8 H9 HM HB HK BN; have HM := q_ (Memo.below hM1 Hbs); have H8 := q_ (Row.keep h81 (MK.below (gg := gg) Hbs)); have HK := q_ (hK1.trans (MK.below (gg := gg) Hbs)); have HB := q_ (below_step hB1 Hbs); have BN := q_ (blk_below hBN1 Hbs)
  have H9 : J0 (Row w0 (w_.setCell ⟨H9g, 0, none⟩ (.bool true)) gg (.slice (some ⟨H9g, 0, none⟩) 1 H9c) true) := nH9
  clear nH9 Hbs hM1 h81 hBN1 hb1 hg9 e9 hB1 hK1 hx9 hf9
  generalize w_.setCell ⟨H9g, 0, none⟩ (.bool true) = w9 at *
  obtain ⟨H8g, H8c, rfl, hH8⟩ := Row.form H8.o; obtain ⟨cg_, hG_, _, _⟩ := Memo.head HM.o
  have ht1 : w9.cell? ⟨gm, 1, none⟩ = some (.string tx) := (blk_cell hG_ 1).trans rfl
  clear hG_
  have hn0 : w9.cell? ⟨gn, 0, none⟩ = some (.int .i64 8) := (blk_cell BN.o 0).trans rfl
  have hn2 : w9.cell? ⟨gn, 2, none⟩ = some (.slice (some ad2) 1 c2) := (blk_cell BN.o 2).trans rfl
  have hn3 : w9.cell? ⟨gn, 3, none⟩ = some (.int .i64 x.f3) := (blk_cell BN.o 3).trans rfl
  have hn4 : w9.cell? ⟨gn, 4, none⟩ = some (.int .i64 x.f4) := (blk_cell BN.o 4).trans rfl
  have hq0 := (HB.o.cell (World.block_lt_of_cell? w0 _ hkc0)).trans hkc0; have hz0 := hq0
  rw [show ad2.add 0 = ad2 by cases ad2; rfl] at hz0
  have HE0 := q_ he0; have hkb := hkc0; clear hkc0 he0
  have HAD : J0 (ad2.block ≠ gg) := ⟨by have h1 := World.block_lt_of_cell? w0 _ hkb; have h2 := Memo.gg_ge HM.o; rw [add_block] at h1; omega⟩
  have HZ := q_ hz0; clear hkb hz0 hq0 hn2 hn3 hn4 ht1
  obtain ⟨cc, hcc⟩ : ∃ cc, (decide (x.f3 = 0) || E k0) = cc := ⟨_, rfl⟩
  have HCC := q_ hcc
  rw [hcc] at HE
  clear hcc
  go_wp2_with fail
  go_loopg [9, 10] (x.f3.toNat + 1) (fun gk_ v9 v10 wr => ∃ (kk : Nat), v10 = .int .i64 (kk : Int) ∧ (kk : Int) ≤ x.f3 ∧ x.f3.toNat - kk < gk_ ∧ J0 (Row w0 wr gg v9 (decide (kk = 0) || E k0)) ∧ J0 (Row w0 wr gg (.slice (some ⟨H8g, 0, none⟩) 1 H8c) false) ∧ J0 (Memo w0 gm gg (some ad) cn nodes tx E wr) ∧ J0 (Below w0.heap.size w0 wr) ∧ J0 (MK gg w wr) ∧ J0 (wr.heap[gn]? = some (.cells #[.int .i64 8, .slice A1 x.f1.length c1, .slice (some ad2) 1 c2, .int .i64 x.f3, .int .i64 x.f4] 156 (0, 0))) ∧ J0 (wr.cell? ad2 = some (.int .i64 (k0 : Int))))
  case atStart => exact ⟨0, rfl, by omega, by omega, ⟨by simpa using H9.o⟩, H8, HM, HB, HK, BN, HZ⟩
  case round =>
    clear H9 H8 HM HB HK BN HZ; obtain ⟨kk, rfl, hkk, hgk, H9, H8, HM, HB, HK, BN, HZ⟩ := hrel; obtain ⟨g9, c9, rfl, hc9⟩ := Row.form H9.o
    have hn2 : wr.cell? ⟨gn, 2, none⟩ = some (.slice (some ad2) 1 c2) := (blk_cell BN.o 2).trans rfl
    have hn3 : wr.cell? ⟨gn, 3, none⟩ = some (.int .i64 x.f3) := (blk_cell BN.o 3).trans rfl
    have hn4 : wr.cell? ⟨gn, 4, none⟩ = some (.int .i64 x.f4) := (blk_cell BN.o 4).trans rfl
    have hz0 := HZ.o
    by_cases hlt : (kk : Int) < x.f3
    · have hd : decide ((kk : Int) < x.f3) = true := decide_eq_true hlt
      go_wp2_with (go_at_call 170; refine (step_of k0 HE0.o _ (decide (kk = 0) || E k0) _ HM.o HB.o H9.o).mono ?_; rintro e w_ ⟨v_, rfl, hR_, hM_, hK_, hB_⟩; have nH8 := q_ (Row.keep H8.o hK_); clear H8; have H8 := nH8; clear nH8; have HS := q_ hR_; obtain ⟨HSg, HSc, rfl, HSh⟩ := Row.form hR_; have nBN := q_ ((hK_.2 gn (blk_lt BN.o) HGN.o).trans BN.o); have nZ := q_ (MK.cell hK_ HZ.o HAD.o); have nK := q_ (HK.o.trans hK_); clear HM HB HK hR_ hK_ BN HZ; have HM := q_ hM_; have HB := q_ hB_; have HK := nK; have BN := nBN; have HZ := nZ; clear nK nBN nZ hM_ hB_)
      go_roundg (x.f3.toNat - kk)
      case measure => omega
      case rel => exact ⟨kk + 1, by go_num, by omega, by omega, ⟨by have h := HS.o; rw [show (decide (kk + 1 = 0) || E k0) = ((decide (kk = 0) || E k0) && E k0) by cases E k0 <;> simp]; exact h⟩, H8, HM, HB, HK, BN, HZ⟩
    · have hd : decide ((kk : Int) < x.f3) = false := decide_eq_false hlt
      have he : J0 ((decide (kk = 0) || E k0) = cc) := ⟨by rw [← HCC.o]; congr 2; rw [eq_iff_iff]; omega⟩
      replace H9 := q_ (he.o ▸ H9.o); clear he
      by_cases hmx : x.f4 < 0
      · have hd2 : decide (x.f4 < 0) = true := decide_eq_true hmx
        go_wp2_with (go_at_call 172; refine (again_of k0 HE0.o _ cc _ HM.o HB.o H9.o).mono ?_; rintro e w_ ⟨v_, rfl, hR_, hM_, hK_, hB_⟩; have HA := q_ hR_; obtain ⟨HAg, HAc, rfl, HAh⟩ := Row.form hR_; have nBN := q_ ((hK_.2 gn (blk_lt BN.o) HGN.o).trans BN.o); have nZ := q_ (MK.cell hK_ HZ.o HAD.o); have nK := q_ (HK.o.trans hK_); clear HM HB HK hR_ hK_ BN HZ; have HM := q_ hM_; have HB := q_ hB_; have HK := nK; have BN := nBN; have HZ := nZ; clear nK nBN nZ hM_ hB_)
        go_ret
        exact ⟨_, rfl, by rw [HE.o]; exact HA.o, HM.o, HK.o, HB.o⟩
      · have hd2 : decide (x.f4 < 0) = false := decide_eq_false hmx
        go_wp2_with (go_at_call 171; obtain ⟨k_, hk_⟩ := or_one false cc; refine (spec_l4Or.calls k_ _ _ [false] _ _ [cc] _ _ (Row.C H8.o) (Kd.R_reads' H8.o).2.1 (Row.C H9.o) (Kd.R_reads' H9.o).2.1 hk_).mono ?_; rintro e w_ ⟨HOv, rfl, ho, hb⟩; have HO := q_ (Row.new ho HB.o (Memo.gg_lt HM.o)); have nH9 := q_ (Row.keep H9.o (MK.below hb)); clear H9; have H9 := nH9; clear nH9; have nBN := q_ (blk_below BN.o hb); have nZ := q_ (MK.cell (MK.below (gg := gg) hb) HZ.o HAD.o); clear BN HZ; have BN := nBN; have HZ := nZ; clear nBN nZ; have nM := q_ (Memo.below HM.o hb); have nB := q_ (below_step HB.o hb); have nK := q_ (HK.o.trans (MK.below hb)); clear HM HB HK ho hb hk_; have HM := nM; have HB := nB; have HK := nK; clear nM nB nK; obtain ⟨HOg, HOc, rfl, HOh⟩ := Row.form HO.o; have hn2 : w_.cell? ⟨gn, 2, none⟩ = some (.slice (some ad2) 1 c2) := (blk_cell BN.o 2).trans rfl; have hn3 : w_.cell? ⟨gn, 3, none⟩ = some (.int .i64 x.f3) := (blk_cell BN.o 3).trans rfl; have hn4 : w_.cell? ⟨gn, 4, none⟩ = some (.int .i64 x.f4) := (blk_cell BN.o 4).trans rfl; have hz0 := HZ.o)
        replace HO := q_ (show Row w0 w_ gg (.slice (some ⟨HOg, 0, none⟩) 1 HOc) cc by have h := HO.o; simpa using h)
        go_loopg [8, 9, 11] ((x.f4 - x.f3).toNat + 1) (fun gk_ v8 v9 v11 wr => ∃ (j : Int) (bo : Bool), v11 = .int .i64 j ∧ x.f3 ≤ j ∧ j ≤ 1000 ∧ (x.f4 - j).toNat < gk_ ∧ J0 (bo = true → cc = true) ∧ J0 (Row w0 wr gg v8 cc) ∧ J0 (Row w0 wr gg v9 bo) ∧ J0 (Memo w0 gm gg (some ad) cn nodes tx E wr) ∧ J0 (Below w0.heap.size w0 wr) ∧ J0 (MK gg w wr) ∧ J0 (wr.heap[gn]? = some (.cells #[.int .i64 8, .slice A1 x.f1.length c1, .slice (some ad2) 1 c2, .int .i64 x.f3, .int .i64 x.f4] 156 (0, 0))) ∧ J0 (wr.cell? ad2 = some (.int .i64 (k0 : Int))))
        case atStart => exact ⟨x.f3, cc, rfl, by omega, by omega, by omega, ⟨fun h => h⟩, HO, H9, HM, HB, HK, BN, HZ⟩
        case round =>
          clear HO H9 HM HB HK BN HZ hn2 hn3 hn4 hz0 H8; obtain ⟨j, bo, rfl, hj0, hj1, hgk2, HI, H8, H9, HM, HB, HK, BN, HZ⟩ := hrel; obtain ⟨g8, c8, rfl, hc8⟩ := Row.form H8.o; obtain ⟨g7, c7, rfl, hc7⟩ := Row.form H9.o
          have hn2 : wr.cell? ⟨gn, 2, none⟩ = some (.slice (some ad2) 1 c2) := (blk_cell BN.o 2).trans rfl
          have hn3 : wr.cell? ⟨gn, 3, none⟩ = some (.int .i64 x.f3) := (blk_cell BN.o 3).trans rfl
          have hn4 : wr.cell? ⟨gn, 4, none⟩ = some (.int .i64 x.f4) := (blk_cell BN.o 4).trans rfl
          have hz0 := HZ.o
          by_cases hlt2 : j < x.f4
          · have hd3 : decide (j < x.f4) = true := decide_eq_true hlt2
            have hwr : IntKind.i64.wrap (j + 1) = j + 1 := by rw [i64_w]; exact wrap_id (by omega) (by omega)
            go_wp2_with (first | (go_at_call 170; refine (step_of k0 HE0.o _ bo _ HM.o HB.o H9.o).mono ?_; rintro e w_ ⟨v_, rfl, hR_, hM_, hK_, hB_⟩; have nH8 := q_ (Row.keep H8.o hK_); clear H8; have H8 := nH8; clear nH8; have HS := q_ hR_; obtain ⟨HSg, HSc, rfl, HSh⟩ := Row.form hR_; have nBN := q_ ((hK_.2 gn (blk_lt BN.o) HGN.o).trans BN.o); have nZ := q_ (MK.cell hK_ HZ.o HAD.o); have nK := q_ (HK.o.trans hK_); clear HM HB HK hR_ hK_ BN HZ; have HM := q_ hM_; have HB := q_ hB_; have HK := nK; have BN := nBN; have HZ := nZ; clear nK nBN nZ hM_ hB_) | (go_at_call 171; obtain ⟨k_, hk_⟩ := or_one cc (bo && E k0); refine (spec_l4Or.calls k_ _ _ [cc] _ _ [(bo && E k0)] _ _ (Row.C H8.o) (Kd.R_reads' H8.o).2.1 (Row.C HS.o) (Kd.R_reads' HS.o).2.1 hk_).mono ?_; rintro e w_ ⟨HO2v, rfl, ho, hb⟩; have HO2 := q_ (Row.new ho HB.o (Memo.gg_lt HM.o)); have nHS := q_ (Row.keep HS.o (MK.below hb)); clear HS; have HS := nHS; clear nHS; have nBN := q_ (blk_below BN.o hb); have nZ := q_ (MK.cell (MK.below (gg := gg) hb) HZ.o HAD.o); clear BN HZ; have BN := nBN; have HZ := nZ; clear nBN nZ; have nM := q_ (Memo.below HM.o hb); have nB := q_ (below_step HB.o hb); have nK := q_ (HK.o.trans (MK.below hb)); clear HM HB HK ho hb hk_; have HM := nM; have HB := nB; have HK := nK; clear nM nB nK; obtain ⟨HO2g, HO2c, rfl, HO2h⟩ := Row.form HO2.o))
            go_roundg ((x.f4 - j).toNat)
            case measure => omega
            case rel => exact ⟨j + 1, bo && E k0, by go_num, by omega, by omega, by omega, ⟨fun h => HI.o (by simp at h; exact h.1)⟩, ⟨by have h := HO2.o; rw [show (cc || (bo && E k0)) = cc by (have := HI.o; cases cc <;> cases bo <;> simp_all)] at h; exact h⟩, HS, HM, HB, HK, BN, HZ⟩
          · have hd3 : decide (j < x.f4) = false := decide_eq_false hlt2
            go_wp2_with fail
            go_ret
            exact ⟨_, rfl, by rw [HE.o]; exact H8.o, HM.o, HK.o, HB.o⟩
def nullK (nodes : List S156) : Nat → Nat → Bool
  | 0, _ => false
  | n + 1, k =>
    if (rd_T156 nodes (k : Int)).f0 = 1 then true
    else if (rd_T156 nodes (k : Int)).f0 = 2 then false
    else if (rd_T156 nodes (k : Int)).f0 = 3 then nullK nodes n (rd (rd_T156 nodes (k : Int)).f2 0).toNat && nullK nodes n (rd (rd_T156 nodes (k : Int)).f2 1).toNat
    else if (rd_T156 nodes (k : Int)).f0 = 4 then nullK nodes n (rd (rd_T156 nodes (k : Int)).f2 0).toNat || nullK nodes n (rd (rd_T156 nodes (k : Int)).f2 1).toNat
    else if (rd_T156 nodes (k : Int)).f0 = 5 then true
    else if (rd_T156 nodes (k : Int)).f0 = 6 then nullK nodes n (rd (rd_T156 nodes (k : Int)).f2 0).toNat
    else if (rd_T156 nodes (k : Int)).f0 = 7 then true
    else (decide ((rd_T156 nodes (k : Int)).f3 = 0) || nullK nodes n (rd (rd_T156 nodes (k : Int)).f2 0).toNat)
def nullE (nodes : List S156) (k : Nat) : Bool := nullK nodes (k + 1) k
theorem rd_in (l : List Int) (i : Nat) (h : i < l.length) : rd l (i : Int) ∈ l := by
  unfold rd
  rw [List.getD_eq_getElem?_getD, Int.toNat_natCast, List.getElem?_eq_getElem h]
  exact List.getElem_mem _
theorem node_ops {nodes : List S156} {k : Nat} (h : nodeAt nodes k = true) : ((rd_T156 nodes (k : Int)).f0 = 1 ∨ (rd_T156 nodes (k : Int)).f0 = 2) ∨
    (((rd_T156 nodes (k : Int)).f0 = 3 ∨ (rd_T156 nodes (k : Int)).f0 = 4) ∧ (rd_T156 nodes (k : Int)).f2.length = 2) ∨
    (((rd_T156 nodes (k : Int)).f0 = 5 ∨ (rd_T156 nodes (k : Int)).f0 = 6 ∨ (rd_T156 nodes (k : Int)).f0 = 7 ∨ (rd_T156 nodes (k : Int)).f0 = 8) ∧ (rd_T156 nodes (k : Int)).f2.length = 1) := by
  obtain ⟨_, h1, _⟩ := node_kids h
  unfold kidsN at h1
  split at h1
  · exact .inl ‹_›
  · split at h1
    · exact .inr (.inl ⟨‹_›, by omega⟩)
    · split at h1
      · exact .inr (.inr ⟨‹_›, by omega⟩)
      · omega
theorem node_kid {nodes : List S156} {k : Nat} (h : nodeAt nodes k = true) (i : Nat) (hi : i < (rd_T156 nodes (k : Int)).f2.length) : rd (rd_T156 nodes (k : Int)).f2 (i : Int) = (((rd (rd_T156 nodes (k : Int)).f2 (i : Int)).toNat : Nat) : Int) ∧ (rd (rd_T156 nodes (k : Int)).f2 (i : Int)).toNat < k := by
  obtain ⟨_, _, h2⟩ := node_kids h
  have := h2 _ (rd_in _ i hi)
  omega
theorem node_times {nodes : List S156} {k : Nat} (h : nodeAt nodes k = true) (h8 : (rd_T156 nodes (k : Int)).f0 = 8) : (0 ≤ (rd_T156 nodes (k : Int)).f3 ∧ (rd_T156 nodes (k : Int)).f3 ≤ 1000) ∧ (rd_T156 nodes (k : Int)).f4 ≤ 1000 := by
  unfold nodeAt nodeB at h
  simp only [Bool.and_eq_true, h8, if_true, timesB, decide_eq_true_eq, Bool.or_eq_true] at h
  omega
theorem nullK_stable {nodes : List S156} (hok : ∀ j, j < nodes.length → nodeAt nodes j = true) : ∀ m k : Nat, k < m → k < nodes.length → ∀ n, k < n → nullK nodes n k = nullE nodes k := by
  intro m
  induction m with
  | zero => intro k hk; omega
  | succ m ih =>
    intro k hk hkl n hn
    cases n with
    | zero => omega
    | succ n =>
      have hkid : ∀ i : Nat, i < (rd_T156 nodes (k : Int)).f2.length → nullK nodes n (rd (rd_T156 nodes (k : Int)).f2 (i : Int)).toNat = nullK nodes k (rd (rd_T156 nodes (k : Int)).f2 (i : Int)).toNat := by
        intro i hi
        obtain ⟨_, h2⟩ := node_kid (hok k hkl) i hi
        rw [ih _ (by omega) (by omega) n (by omega), ih _ (by omega) (by omega) k (by omega)]
      have k0 := hkid 0; have k1 := hkid 1
      simp only [Int.ofNat_zero, Int.natCast_one, Int.cast_ofNat_Int] at k0 k1
      unfold nullE
      simp only [nullK]
      rcases node_ops (hok k hkl) with (h | h) | ⟨h | h, hl⟩ | ⟨h | h | h | h, hl⟩
      · simp [h]
      · simp [h]
      · rw [k0 (by omega), k1 (by omega)]
      · rw [k0 (by omega), k1 (by omega)]
      · simp [h]
      · rw [k0 (by omega)]; simp [h]
      · simp [h]
      · rw [k0 (by omega)]; simp [h]
theorem ends_all {w0 : World} {gm gg cn : Nat} {An : Option Addr} {nodes : List S156} {tx : ByteArray} (ht : tx.size = 0) (hn : nodes.length ≤ 100000) (hN : Kd.C k156 w0 An nodes.length nodes) (hok : ∀ j, j < nodes.length → nodeAt nodes j = true) : ∀ m k : Nat, k < m → k < nodes.length → EOK w0 gm gg An cn nodes tx (nullE nodes) k := by
  intro m
  induction m with
  | zero => intro k hk; omega
  | succ m ih =>
    intro k hk hkl
    refine ends_of ht hn k hkl ?_
    have kid : ∀ i : Nat, i < (rd_T156 nodes (k : Int)).f2.length → rd (rd_T156 nodes (k : Int)).f2 (i : Int) = (((rd (rd_T156 nodes (k : Int)).f2 (i : Int)).toNat : Nat) : Int) ∧ EOK w0 gm gg An cn nodes tx (nullE nodes) (rd (rd_T156 nodes (k : Int)).f2 (i : Int)).toNat ∧ nullK nodes k (rd (rd_T156 nodes (k : Int)).f2 (i : Int)).toNat = nullE nodes (rd (rd_T156 nodes (k : Int)).f2 (i : Int)).toNat := by
      intro i hi
      obtain ⟨h1, h2⟩ := node_kid (hok k hkl) i hi
      exact ⟨h1, ih _ (by omega) (by omega), nullK_stable hok nodes.length _ (by omega) (by omega) k h2⟩
    have k0 := kid 0; have k1 := kid 1
    simp only [Int.ofNat_zero, Int.natCast_one, Int.cast_ofNat_Int] at k0 k1
    rcases node_ops (hok k hkl) with (h | h) | ⟨h | h, hl⟩ | ⟨h | h | h | h, hl⟩
    · exact find_empty ht hn k hkl hN h (by simp [nullE, nullK, h])
    · exact find_set ht hn k hkl hN h (by simp [nullE, nullK, h])
    · obtain ⟨a0, b0, c0⟩ := k0 (by omega)
      obtain ⟨a1, b1, c1⟩ := k1 (by omega)
      exact find_cat ht hn k hkl hN h hl _ a0 b0 _ a1 b1 (by rw [← c0, ← c1]; simp [nullE, nullK, h])
    · obtain ⟨a0, b0, c0⟩ := k0 (by omega)
      obtain ⟨a1, b1, c1⟩ := k1 (by omega)
      exact find_alt ht hn k hkl hN h hl _ a0 b0 _ a1 b1 (by rw [← c0, ← c1]; simp [nullE, nullK, h])
    · obtain ⟨a0, b0, c0⟩ := k0 (by omega)
      exact find_star ht hn k hkl hN h hl _ a0 b0 (by simp [nullE, nullK, h])
    · obtain ⟨a0, b0, c0⟩ := k0 (by omega)
      exact find_plus ht hn k hkl hN h hl _ a0 b0 (by rw [← c0]; simp [nullE, nullK, h])
    · obtain ⟨a0, b0, c0⟩ := k0 (by omega)
      exact find_maybe ht hn k hkl hN h hl _ a0 b0 (by simp [nullE, nullK, h])
    · obtain ⟨a0, b0, c0⟩ := k0 (by omega)
      obtain ⟨t1, t2⟩ := node_times (hok k hkl) h
      exact find_times ht hn k hkl hN h hl _ a0 b0 t1 t2 (by rw [← c0]; simp [nullE, nullK, h])
end Go.Proofs.Ytijmhelacmjggaa.P
namespace Go.Proofs.Ytijmhelacmjggaa.P
open Go.RowKit Go.Proofs.YtijmhelacmjggaaW.PrintWords Go.Proofs.YtijmhelacmjggaaW.PrintLast Go.Proofs.YtijmhelacmjggaaW.PrintMore
attribute [local go_sem] max2_int min2_int max_two min_two max_three min_three max_four min_four
set_option linter.unusedVariables false
set_option linter.unusedSimpArgs false
/-! ### impl_Rx_last: function 64 -/
def impl_Rx_last.f (l0_0 : List (S156)) : Option (Int) := (impl_RNode.f l0_0).bind fun t102 => (some (wrap64 (t102 - 1)))
theorem impl_Rx_last.calls (A0_0 : Option Addr) (c0_0 : Nat) (l0_0 : List (S156)) (r : Int) (w : World) (hr0_0 : Kd.C k156 w A0_0 l0_0.length l0_0) (hc0_0 : l0_0.length ≤ c0_0) (h : impl_Rx_last.f l0_0 = some r) :
  Calls Try.prog 64 #[.agg #[.slice A0_0 l0_0.length c0_0]] w fun e w' => e = .returned (.int .i64 r) ∧ Below w.heap.size w w' := by
 have hu29 := Try.underlying29; have HR0_0 := q_ hr0_0; have HC0_0 := q_ hc0_0; clear hr0_0 hc0_0; have HB := q_ (Below.refl w.heap.size w)
 have H : ((impl_RNode.f l0_0).bind fun t102 => (some (wrap64 (t102 - 1)))) = some r := h
 clear h; obtain ⟨t102, A2, H⟩ := ob_ H; obtain rfl := Option.some.inj H
 go_enter Try.func64, Try.ntmps64
 go_wp2_with (first | ((with_reducible refine gate_dst (N := 1) rfl ?_); refine bx_ 1 #[.slice A0_0 l0_0.length c0_0] 29 ?_; intro gb101 hg w3 hbox hb; have BK101 := q_ (hbox); have GE101 := ge_ hg HB; replace HB := sb_ HB hb; clear hb hbox hg; obtain ⟨hcz4_0, hfz4_0⟩ := d1_ BK101) | ((with_reducible refine gate_callee (f := 118) rfl ?_); refine gl_ (some 5) rfl rfl Try.func118 #[.slice A0_0 l0_0.length c0_0] ?_; (with_reducible refine (impl_RNode.calls _ _ l0_0 t102 _ ?side1 ?side2 A2.o).mono ?_); (case side1 => exact Kd.C_below HR0_0.o (be_ HB.o)); (case side2 => exact HC0_0.o); rintro e w' ⟨rfl, ⟨nd, rfl⟩⟩; refine ⟨_, rfl, ?_⟩))
 go_ret
 exact ⟨rt_, be1_ HB.o GE101.o⟩
/-! ### impl_Rx_nullable: function 68 -/
mutual
def impl_Rx_nullable.j0 : Nat → Int → Bool → List (S156) → Int → List (S103) → List Int → Int → Int → Option (Bool)
 | 0, _, _, _, _, _, _, _, _ => none
 | k + 1, x12, x13, x102000, x104000, x104001, x104002, x104003, x104004 => if x13 = true then (some true) else (if x12 = 2 then (some false) else (if x12 = 3 then (if 0 < (x104002.length : Int) then ((impl_Rx_nullable.f k x102000 (rd x104002 0)).bind fun t105 => (if t105 = true then (if 1 < (x104002.length : Int) then ((impl_Rx_nullable.f k x102000 (rd x104002 1)).bind fun t107 => (some t107)) else (none)) else (some false))) else (none)) else (if x12 = 4 then (if 0 < (x104002.length : Int) then ((impl_Rx_nullable.f k x102000 (rd x104002 0)).bind fun t109 => (if t109 = true then (some true) else (if 1 < (x104002.length : Int) then ((impl_Rx_nullable.f k x102000 (rd x104002 1)).bind fun t111 => (some t111)) else (none)))) else (none)) else (if x104000 = 8 then (if x104003 = 0 then (some true) else (if 0 < (x104002.length : Int) then ((impl_Rx_nullable.f k x102000 (rd x104002 0)).bind fun t113 => (some t113)) else (none))) else (if 0 < (x104002.length : Int) then ((impl_Rx_nullable.f k x102000 (rd x104002 0)).bind fun t115 => (some t115)) else (none))))))
def impl_Rx_nullable.f : Nat → List (S156) → Int → Option (Bool)
 | 0, _, _ => none
 | k + 1, l0_0, a1 => if 0 ≤ a1 then (if a1 < (l0_0.length : Int) then (if ((rd_T156 l0_0 a1).f0) = 1 then (impl_Rx_nullable.j0 k ((rd_T156 l0_0 a1).f0) (((rd_T156 l0_0 a1).f0) == 1) l0_0 ((rd_T156 l0_0 a1).f0) ((rd_T156 l0_0 a1).f1) ((rd_T156 l0_0 a1).f2) ((rd_T156 l0_0 a1).f3) ((rd_T156 l0_0 a1).f4)) else (if ((rd_T156 l0_0 a1).f0) = 5 then (impl_Rx_nullable.j0 k ((rd_T156 l0_0 a1).f0) (((rd_T156 l0_0 a1).f0) == 5) l0_0 ((rd_T156 l0_0 a1).f0) ((rd_T156 l0_0 a1).f1) ((rd_T156 l0_0 a1).f2) ((rd_T156 l0_0 a1).f3) ((rd_T156 l0_0 a1).f4)) else (impl_Rx_nullable.j0 k ((rd_T156 l0_0 a1).f0) (((rd_T156 l0_0 a1).f0) == 7) l0_0 ((rd_T156 l0_0 a1).f0) ((rd_T156 l0_0 a1).f1) ((rd_T156 l0_0 a1).f2) ((rd_T156 l0_0 a1).f3) ((rd_T156 l0_0 a1).f4)))) else (none)) else (none)
end
def impl_Rx_nullable.T10 : Bool × List (List Nat × List Nat) := (true, [([], []), ([], []), ([1], [1]), ([2], [2]), ([3], [3]), ([0, 4], [0, 4]), ([5, 5], [5]), ([6], [6]), ([6], [6]), ([8, 6], [6, 8]), ([9, 6], [6, 9]), ([10, 6], [6, 10]), ([7, 11, 6, 6], [6, 7, 11]), ([6, 12], [6, 12]), ([13, 12, 0, 1, 2, 3, 4, 5, 6, 7, 8, 9, 10, 11, 12, 13], [13])])
def impl_Rx_nullable.B10 : List Nat := [0, 0, 2, 6, 14, 31, 63, 127, 127, 383, 895, 1919, 4095, 8191, 16383]
theorem impl_Rx_nullable.tab10 : rtab .any (opsOf Try.f68 10) = impl_Rx_nullable.T10 := by kernel_rfl
theorem impl_Rx_nullable.bits10 : waitsOk impl_Rx_nullable.T10.2 impl_Rx_nullable.B10 = true := by kernel_rfl
def impl_Rx_nullable.T12 : Bool × List (List Nat × List Nat) := (true, [([], []), ([], []), ([1], [1]), ([2], [2]), ([3], [3]), ([0, 4], [0, 4]), ([5, 5], [5]), ([6], [6]), ([6], [6]), ([8, 6], [6, 8]), ([9, 6], [6, 9]), ([10, 6], [6, 10]), ([7, 11, 6, 6], [6, 7, 11]), ([6, 12], [6, 12]), ([13, 12, 0, 1, 2, 3, 4, 5, 6, 7, 8, 9, 10, 11, 12, 13], [13])])
def impl_Rx_nullable.B12 : List Nat := [0, 0, 2, 6, 14, 31, 63, 127, 127, 383, 895, 1919, 4095, 8191, 16383]
theorem impl_Rx_nullable.tab12 : rtab .any (opsOf Try.f68 12) = impl_Rx_nullable.T12 := by kernel_rfl
theorem impl_Rx_nullable.bits12 : waitsOk impl_Rx_nullable.T12.2 impl_Rx_nullable.B12 = true := by kernel_rfl
def impl_Rx_nullable.T13 : Bool × List (List Nat × List Nat) := (true, [([], []), ([0], [0]), ([1], [1]), ([2], [2]), ([3], [3]), ([4, 3], [3, 4]), ([5, 3], [3, 5]), ([3, 6], [3, 6]), ([7, 3], [7]), ([8], [8]), ([8], [8]), ([10, 8], [8, 10]), ([11, 8], [8, 11]), ([12, 8], [8, 12]), ([9, 13, 8, 8], [8, 9, 13]), ([8, 14], [8, 14]), ([15, 14, 0, 1, 2, 3, 4, 5, 6, 7, 8, 9, 10, 11, 12, 13, 14, 15], [15])])
def impl_Rx_nullable.B13 : List Nat := [0, 1, 3, 7, 15, 31, 63, 127, 255, 511, 511, 1535, 3583, 7679, 16383, 32767, 65535]
theorem impl_Rx_nullable.tab13 : rtab .any (opsOf Try.f68 13) = impl_Rx_nullable.T13 := by kernel_rfl
theorem impl_Rx_nullable.bits13 : waitsOk impl_Rx_nullable.T13.2 impl_Rx_nullable.B13 = true := by kernel_rfl
theorem impl_Rx_nullable.calls (k : Nat) : ∀ (A0_0 : Option Addr) (c0_0 : Nat) (l0_0 : List (S156)) (a1 : Int) (r : Bool) (w : World) (hr0_0 : Kd.C k156 w A0_0 l0_0.length l0_0) (hc0_0 : l0_0.length ≤ c0_0) (h : impl_Rx_nullable.f k l0_0 a1 = some r),
  Calls Try.prog 68 #[.agg #[.slice A0_0 l0_0.length c0_0], .int .i64 a1] w fun e w' => e = .returned (.bool r) ∧ Below w.heap.size w w' := by
 induction k using Nat.strongRecOn with
 | _ k ih =>
 intro A0_0 c0_0 l0_0 a1 r w hr0_0 hc0_0 h
 cases k with
 | zero => exact absurd h (by simp [impl_Rx_nullable.f])
 | succ k =>
 simp only [impl_Rx_nullable.f] at h
 have hu29 := Try.underlying29; have hu156 := Try.underlying156; have HR0_0 := q_ hr0_0; have HC0_0 := q_ hc0_0; clear hr0_0 hc0_0; have HB := q_ (Below.refl w.heap.size w)
 have H : (if 0 ≤ a1 then (if a1 < (l0_0.length : Int) then (if ((rd_T156 l0_0 a1).f0) = 1 then (impl_Rx_nullable.j0 k ((rd_T156 l0_0 a1).f0) (((rd_T156 l0_0 a1).f0) == 1) l0_0 ((rd_T156 l0_0 a1).f0) ((rd_T156 l0_0 a1).f1) ((rd_T156 l0_0 a1).f2) ((rd_T156 l0_0 a1).f3) ((rd_T156 l0_0 a1).f4)) else (if ((rd_T156 l0_0 a1).f0) = 5 then (impl_Rx_nullable.j0 k ((rd_T156 l0_0 a1).f0) (((rd_T156 l0_0 a1).f0) == 5) l0_0 ((rd_T156 l0_0 a1).f0) ((rd_T156 l0_0 a1).f1) ((rd_T156 l0_0 a1).f2) ((rd_T156 l0_0 a1).f3) ((rd_T156 l0_0 a1).f4)) else (impl_Rx_nullable.j0 k ((rd_T156 l0_0 a1).f0) (((rd_T156 l0_0 a1).f0) == 7) l0_0 ((rd_T156 l0_0 a1).f0) ((rd_T156 l0_0 a1).f1) ((rd_T156 l0_0 a1).f2) ((rd_T156 l0_0 a1).f3) ((rd_T156 l0_0 a1).f4)))) else (none)) else (none)) = some r := h
 clear h
 by_cases c3 : 0 ≤ a1
 ·rw [if_pos c3] at H; have c3b0 := dt_ c3; clear c3
  by_cases c4 : a1 < (l0_0.length : Int)
  ·rw [if_pos c4] at H; have c4b0 := dt_ c4; clear c4; have HC5 := q_ H; clear H
   go_enter Try.func68, Try.ntmps68
   go_upto_if 13 with (first | ((with_reducible refine gate_dst (N := 2) rfl ?_); refine bx_ 2 #[.slice A0_0 l0_0.length c0_0] 29 ?_; intro gb101 hg w6 hbox hb; have BK101 := q_ (hbox); have GE101 := ge_ hg HB; replace HB := sb_ HB hb; clear hb hbox hg; obtain ⟨hcz7_0, hfz7_0⟩ := d1_ BK101; have p102 : 0 ≤ (a1 : Int) := of_decide_eq_true as_; have q102 : a1 < (l0_0.length : Int) := of_decide_eq_true as_; obtain ⟨ad102, A102_1, c102_1, A102_2, c102_2, e102, hx102_0, hx102_1, hx102_2, hx102_3, hx102_4, hl102_1, hi102_1, hl102_2, hi102_2⟩ := at_T156 HR0_0.o a1 p102 q102; cases e102; replace hx102_0 := mv_ HB.o hx102_0; replace hx102_1 := mv_ HB.o hx102_1; replace hx102_2 := mv_ HB.o hx102_2; replace hx102_3 := mv_ HB.o hx102_3; replace hx102_4 := mv_ HB.o hx102_4; have HR102_1 := q_ hi102_1; have HC102_1 := q_ hl102_1; clear hi102_1 hl102_1; have HR102_2 := q_ hi102_2; have HC102_2 := q_ hl102_2; clear hi102_2 hl102_2; replace p102 := eq_true p102; replace q102 := eq_true q102) | ((with_reducible refine gate_dst (N := 5) rfl ?_); refine bx_ 5 #[.int .i64 0, .slice none 0 0, .slice none 0 0, .int .i64 0, .int .i64 0] 156 ?_; intro gb103 hg w8 hbox hb; have BK103 := q_ (hbox); have GE103 := ge1_ hg HB GE101; have NB101_103 := nl_ hg BK101; have NB103_101 := ng_ hg BK101; replace BK101 := lb_ BK101 hb; replace HB := sb1_ HB GE101 hb; clear hb hbox hg; have hnb9 := NB103_101.o; have hnc9 := NB101_103.o; obtain ⟨hcz10_0, hcz10_1, hcz10_2, hcz10_3, hcz10_4, hfz10_0, hfz10_1, hfz10_2, hfz10_3, hfz10_4⟩ := d5_ BK103))
   (try simp only [Act.put, List.setIfInBounds_toArray, List.set_cons_zero, List.set_cons_succ])
   go_cut [13] (fun v13 wc => ∃ (kq : Nat) (x13_4 : Bool), v13 = .bool x13_4 ∧ J0 (impl_Rx_nullable.j0 kq ((rd_T156 l0_0 a1).f0) x13_4 l0_0 ((rd_T156 l0_0 a1).f0) ((rd_T156 l0_0 a1).f1) ((rd_T156 l0_0 a1).f2) ((rd_T156 l0_0 a1).f3) ((rd_T156 l0_0 a1).f4) = some r) ∧ J0 (kq ≤ k) ∧ J0 (wc.heap[gb101]? = some (.cells #[(.slice (some ad102) l0_0.length c0_0)] 29 (0, 0))) ∧ J0 (wc.heap[gb103]? = some (.cells #[.int .i64 ((rd_T156 l0_0 a1).f0), (.slice A102_1 ((rd_T156 l0_0 a1).f1).length c102_1), (.slice A102_2 ((rd_T156 l0_0 a1).f2).length c102_2), .int .i64 ((rd_T156 l0_0 a1).f3), .int .i64 ((rd_T156 l0_0 a1).f4)] 156 (0, 0))) ∧ J0 (Below w.heap.size w wc))
   case first =>
    have H := HC5.o; clear HC5
    by_cases c11 : ((rd_T156 l0_0 a1).f0) = 1
    ·rw [if_pos c11] at H
     have c11b0 : (((rd_T156 l0_0 a1).f0) == 1) = true := beq_iff_eq.mpr c11
     have c11b1 : (((rd_T156 l0_0 a1).f0) != 1) = false := bne_eq_false_iff_eq.mpr c11
     clear c11
     (first | rw [c11b0] | (simp only [i64_w, i32_w]; rw [c11b0]) | skip)
     have H' := q_ H
     clear H
     go_wp2
     go_meet
     case rel => exact ⟨_, ((((rd_T156 l0_0 a1).f0) == 1)), rs_, H', ⟨by first | omega | exact Nat.le_refl _⟩, ⟨by (with_reducible repeat (first | refine blk_drewN ?_ _ | refine blk_drew ?_ | refine blk_alloc ?_ _)); refine blk_far ?_ NB101_103.o _; (with_reducible repeat (first | refine blk_drewN ?_ _ | refine blk_drew ?_ | refine blk_alloc ?_ _)); refine blk_far ?_ NB101_103.o _; (with_reducible repeat (first | refine blk_drewN ?_ _ | refine blk_drew ?_ | refine blk_alloc ?_ _)); refine blk_far ?_ NB101_103.o _; (with_reducible repeat (first | refine blk_drewN ?_ _ | refine blk_drew ?_ | refine blk_alloc ?_ _)); refine blk_far ?_ NB101_103.o _; (with_reducible repeat (first | refine blk_drewN ?_ _ | refine blk_drew ?_ | refine blk_alloc ?_ _)); refine blk_far ?_ NB101_103.o _; (with_reducible repeat (first | refine blk_drewN ?_ _ | refine blk_drew ?_ | refine blk_alloc ?_ _)); exact BK101.o⟩, ⟨by (with_reducible repeat (first | refine blk_drewN ?_ _ | refine blk_drew ?_ | refine blk_alloc ?_ _)); refine blk_put (cs := #[.int .i64 ((rd_T156 l0_0 a1).f0), .slice A102_1 ((rd_T156 l0_0 a1).f1).length c102_1, .slice A102_2 ((rd_T156 l0_0 a1).f2).length c102_2, .int .i64 ((rd_T156 l0_0 a1).f3), .int .i64 0]) ?_ 4 _ rfl; (with_reducible repeat (first | refine blk_drewN ?_ _ | refine blk_drew ?_ | refine blk_alloc ?_ _)); refine blk_put (cs := #[.int .i64 ((rd_T156 l0_0 a1).f0), .slice A102_1 ((rd_T156 l0_0 a1).f1).length c102_1, .slice A102_2 ((rd_T156 l0_0 a1).f2).length c102_2, .int .i64 0, .int .i64 0]) ?_ 3 _ rfl; (with_reducible repeat (first | refine blk_drewN ?_ _ | refine blk_drew ?_ | refine blk_alloc ?_ _)); refine blk_put (cs := #[.int .i64 ((rd_T156 l0_0 a1).f0), .slice A102_1 ((rd_T156 l0_0 a1).f1).length c102_1, .slice none 0 0, .int .i64 0, .int .i64 0]) ?_ 2 _ rfl; (with_reducible repeat (first | refine blk_drewN ?_ _ | refine blk_drew ?_ | refine blk_alloc ?_ _)); refine blk_put (cs := #[.int .i64 ((rd_T156 l0_0 a1).f0), .slice none 0 0, .slice none 0 0, .int .i64 0, .int .i64 0]) ?_ 1 _ rfl; (with_reducible repeat (first | refine blk_drewN ?_ _ | refine blk_drew ?_ | refine blk_alloc ?_ _)); refine blk_put (cs := #[.int .i64 0, .slice none 0 0, .slice none 0 0, .int .i64 0, .int .i64 0]) ?_ 0 _ rfl; (with_reducible repeat (first | refine blk_drewN ?_ _ | refine blk_drew ?_ | refine blk_alloc ?_ _)); exact BK103.o⟩, ⟨be2_ HB.o GE101.o GE103.o⟩⟩
    ·rw [if_neg c11] at H
     have c11b0 : (((rd_T156 l0_0 a1).f0) == 1) = false := beq_eq_false_iff_ne.mpr c11
     have c11b1 : (((rd_T156 l0_0 a1).f0) != 1) = true := bne_iff_ne.mpr c11
     (first | rw [c11b0] | (simp only [i64_w, i32_w]; rw [c11b0]) | skip)
     by_cases c12 : ((rd_T156 l0_0 a1).f0) = 5
     ·rw [if_pos c12] at H
      have c12b0 : (((rd_T156 l0_0 a1).f0) == 5) = true := beq_iff_eq.mpr c12
      have c12b1 : (((rd_T156 l0_0 a1).f0) != 5) = false := bne_eq_false_iff_eq.mpr c12
      clear c12
      have H' := q_ H
      clear H
      go_wp2
      go_meet
      case rel => exact ⟨_, ((((rd_T156 l0_0 a1).f0) == 5)), rs_, H', ⟨by first | omega | exact Nat.le_refl _⟩, ⟨by (with_reducible repeat (first | refine blk_drewN ?_ _ | refine blk_drew ?_ | refine blk_alloc ?_ _)); refine blk_far ?_ NB101_103.o _; (with_reducible repeat (first | refine blk_drewN ?_ _ | refine blk_drew ?_ | refine blk_alloc ?_ _)); refine blk_far ?_ NB101_103.o _; (with_reducible repeat (first | refine blk_drewN ?_ _ | refine blk_drew ?_ | refine blk_alloc ?_ _)); refine blk_far ?_ NB101_103.o _; (with_reducible repeat (first | refine blk_drewN ?_ _ | refine blk_drew ?_ | refine blk_alloc ?_ _)); refine blk_far ?_ NB101_103.o _; (with_reducible repeat (first | refine blk_drewN ?_ _ | refine blk_drew ?_ | refine blk_alloc ?_ _)); refine blk_far ?_ NB101_103.o _; (with_reducible repeat (first | refine blk_drewN ?_ _ | refine blk_drew ?_ | refine blk_alloc ?_ _)); exact BK101.o⟩, ⟨by (with_reducible repeat (first | refine blk_drewN ?_ _ | refine blk_drew ?_ | refine blk_alloc ?_ _)); refine blk_put (cs := #[.int .i64 ((rd_T156 l0_0 a1).f0), .slice A102_1 ((rd_T156 l0_0 a1).f1).length c102_1, .slice A102_2 ((rd_T156 l0_0 a1).f2).length c102_2, .int .i64 ((rd_T156 l0_0 a1).f3), .int .i64 0]) ?_ 4 _ rfl; (with_reducible repeat (first | refine blk_drewN ?_ _ | refine blk_drew ?_ | refine blk_alloc ?_ _)); refine blk_put (cs := #[.int .i64 ((rd_T156 l0_0 a1).f0), .slice A102_1 ((rd_T156 l0_0 a1).f1).length c102_1, .slice A102_2 ((rd_T156 l0_0 a1).f2).length c102_2, .int .i64 0, .int .i64 0]) ?_ 3 _ rfl; (with_reducible repeat (first | refine blk_drewN ?_ _ | refine blk_drew ?_ | refine blk_alloc ?_ _)); refine blk_put (cs := #[.int .i64 ((rd_T156 l0_0 a1).f0), .slice A102_1 ((rd_T156 l0_0 a1).f1).length c102_1, .slice none 0 0, .int .i64 0, .int .i64 0]) ?_ 2 _ rfl; (with_reducible repeat (first | refine blk_drewN ?_ _ | refine blk_drew ?_ | refine blk_alloc ?_ _)); refine blk_put (cs := #[.int .i64 ((rd_T156 l0_0 a1).f0), .slice none 0 0, .slice none 0 0, .int .i64 0, .int .i64 0]) ?_ 1 _ rfl; (with_reducible repeat (first | refine blk_drewN ?_ _ | refine blk_drew ?_ | refine blk_alloc ?_ _)); refine blk_put (cs := #[.int .i64 0, .slice none 0 0, .slice none 0 0, .int .i64 0, .int .i64 0]) ?_ 0 _ rfl; (with_reducible repeat (first | refine blk_drewN ?_ _ | refine blk_drew ?_ | refine blk_alloc ?_ _)); exact BK103.o⟩, ⟨be2_ HB.o GE101.o GE103.o⟩⟩
     ·rw [if_neg c12] at H
      have c12b0 : (((rd_T156 l0_0 a1).f0) == 5) = false := beq_eq_false_iff_ne.mpr c12
      have c12b1 : (((rd_T156 l0_0 a1).f0) != 5) = true := bne_iff_ne.mpr c12
      have H' := q_ H
      clear H
      go_wp2
      go_meet
      case rel => exact ⟨_, ((((rd_T156 l0_0 a1).f0) == 7)), rs_, H', ⟨by first | omega | exact Nat.le_refl _⟩, ⟨by (with_reducible repeat (first | refine blk_drewN ?_ _ | refine blk_drew ?_ | refine blk_alloc ?_ _)); refine blk_far ?_ NB101_103.o _; (with_reducible repeat (first | refine blk_drewN ?_ _ | refine blk_drew ?_ | refine blk_alloc ?_ _)); refine blk_far ?_ NB101_103.o _; (with_reducible repeat (first | refine blk_drewN ?_ _ | refine blk_drew ?_ | refine blk_alloc ?_ _)); refine blk_far ?_ NB101_103.o _; (with_reducible repeat (first | refine blk_drewN ?_ _ | refine blk_drew ?_ | refine blk_alloc ?_ _)); refine blk_far ?_ NB101_103.o _; (with_reducible repeat (first | refine blk_drewN ?_ _ | refine blk_drew ?_ | refine blk_alloc ?_ _)); refine blk_far ?_ NB101_103.o _; (with_reducible repeat (first | refine blk_drewN ?_ _ | refine blk_drew ?_ | refine blk_alloc ?_ _)); exact BK101.o⟩, ⟨by (with_reducible repeat (first | refine blk_drewN ?_ _ | refine blk_drew ?_ | refine blk_alloc ?_ _)); refine blk_put (cs := #[.int .i64 ((rd_T156 l0_0 a1).f0), .slice A102_1 ((rd_T156 l0_0 a1).f1).length c102_1, .slice A102_2 ((rd_T156 l0_0 a1).f2).length c102_2, .int .i64 ((rd_T156 l0_0 a1).f3), .int .i64 0]) ?_ 4 _ rfl; (with_reducible repeat (first | refine blk_drewN ?_ _ | refine blk_drew ?_ | refine blk_alloc ?_ _)); refine blk_put (cs := #[.int .i64 ((rd_T156 l0_0 a1).f0), .slice A102_1 ((rd_T156 l0_0 a1).f1).length c102_1, .slice A102_2 ((rd_T156 l0_0 a1).f2).length c102_2, .int .i64 0, .int .i64 0]) ?_ 3 _ rfl; (with_reducible repeat (first | refine blk_drewN ?_ _ | refine blk_drew ?_ | refine blk_alloc ?_ _)); refine blk_put (cs := #[.int .i64 ((rd_T156 l0_0 a1).f0), .slice A102_1 ((rd_T156 l0_0 a1).f1).length c102_1, .slice none 0 0, .int .i64 0, .int .i64 0]) ?_ 2 _ rfl; (with_reducible repeat (first | refine blk_drewN ?_ _ | refine blk_drew ?_ | refine blk_alloc ?_ _)); refine blk_put (cs := #[.int .i64 ((rd_T156 l0_0 a1).f0), .slice none 0 0, .slice none 0 0, .int .i64 0, .int .i64 0]) ?_ 1 _ rfl; (with_reducible repeat (first | refine blk_drewN ?_ _ | refine blk_drew ?_ | refine blk_alloc ?_ _)); refine blk_put (cs := #[.int .i64 0, .slice none 0 0, .slice none 0 0, .int .i64 0, .int .i64 0]) ?_ 0 _ rfl; (with_reducible repeat (first | refine blk_drewN ?_ _ | refine blk_drew ?_ | refine blk_alloc ?_ _)); exact BK103.o⟩, ⟨be2_ HB.o GE101.o GE103.o⟩⟩
   case rest =>
    clear HC5; (try clear c3); (try clear c3b0); (try clear c4); (try clear c4b0); (try clear c11); (try clear c11b0); (try clear c11b1); (try clear c12); (try clear c12b0); (try clear c12b1); (try clear hcz10_0); (try clear hcz10_1); (try clear hcz10_2); (try clear hcz10_3); (try clear hcz10_4); (try clear hcz7_0); (try clear hfz10_0); (try clear hfz10_1); (try clear hfz10_2); (try clear hfz10_3); (try clear hfz10_4); (try clear hfz7_0); (try clear hx102_0); (try clear hx102_1); (try clear hx102_2); (try clear hx102_3); (try clear hx102_4); (try clear p102); (try clear q102); obtain ⟨kq, x13_4, rfl, HA, HJ4, BK101, BK103, HB⟩ := hcut
    cases kq with
    | zero => exact absurd HA.o (by simp [impl_Rx_nullable.j0])
    | succ kj4 =>
     have H := HA.o; clear HA
     simp only [impl_Rx_nullable.j0] at H
     by_cases c13 : x13_4 = true
     ·subst c13; rw [if_pos rfl] at H; obtain rfl := Option.some.inj H
      go_wp2
      go_ret
      exact ⟨rt_, be2_ HB.o GE101.o GE103.o⟩
     ·replace c13 := Bool.eq_false_iff.mpr c13; subst c13; rw [if_neg nft_] at H
      by_cases c14 : ((rd_T156 l0_0 a1).f0) = 2
      ·rw [if_pos c14] at H
       have c14b0 : (((rd_T156 l0_0 a1).f0) == 2) = true := beq_iff_eq.mpr c14
       have c14b1 : (((rd_T156 l0_0 a1).f0) != 2) = false := bne_eq_false_iff_eq.mpr c14
       clear c14; obtain rfl := Option.some.inj H
       go_wp2
       go_ret
       exact ⟨rt_, be2_ HB.o GE101.o GE103.o⟩
      ·rw [if_neg c14] at H
       have c14b0 : (((rd_T156 l0_0 a1).f0) == 2) = false := beq_eq_false_iff_ne.mpr c14
       have c14b1 : (((rd_T156 l0_0 a1).f0) != 2) = true := bne_iff_ne.mpr c14
       by_cases c15 : ((rd_T156 l0_0 a1).f0) = 3
       ·rw [if_pos c15] at H
        have c15b0 : (((rd_T156 l0_0 a1).f0) == 3) = true := beq_iff_eq.mpr c15
        have c15b1 : (((rd_T156 l0_0 a1).f0) != 3) = false := bne_eq_false_iff_eq.mpr c15
        clear c15
        by_cases c16 : 0 < (((rd_T156 l0_0 a1).f2).length : Int)
        ·rw [if_pos c16] at H; have c16b0 := dt_ c16
         have c16b1 : decide (0 < ((rd_T156 l0_0 a1).f2).length) = true := decide_eq_true (by omega)
         clear c16; obtain ⟨t105, A17, H⟩ := ob_ H
         by_cases c18 : t105 = true
         ·subst c18; rw [if_pos rfl] at H
          by_cases c19 : 1 < (((rd_T156 l0_0 a1).f2).length : Int)
          ·rw [if_pos c19] at H; have c19b0 := dt_ c19
           have c19b1 : decide (1 < ((rd_T156 l0_0 a1).f2).length) = true := decide_eq_true (by omega)
           clear c19; obtain ⟨t107, A20, H⟩ := ob_ H; obtain rfl := Option.some.inj H
           try go_wp2
           replace BK101 := q_ (blk_drew BK101.o); replace BK103 := q_ (blk_drew BK103.o); replace HB := q_ (below_drew1 HB.o)
           have p104 : 0 ≤ (0 : Int) := (by omega)
           have q104 : 0 < (((rd_T156 l0_0 a1).f2).length : Int) := of_decide_eq_true as_
           obtain ⟨ad104, e104, hx104_0⟩ := Kd.at_int HR102_2.o 0 p104 q104; have hw104_0 := hx104_0
           (try rw [show ((0 : Int)).toNat = 0 from rfl] at hw104_0)
           (try rw [show 0 * 1 = 0 from rfl] at hw104_0)
           (try rw [Addr.add_zero'] at hw104_0)
           cases e104
           have qi104 : (0 < ((rd_T156 l0_0 a1).f2).length) = True := eq_true (by omega)
           (try rw [show ((0 : Int)).toNat = 0 from rfl] at hx104_0)
           (try rw [Addr.add_zero'] at hx104_0)
           replace hx104_0 := mv_ HB.o hx104_0; replace p104 := eq_true p104; replace q104 := eq_true q104
           have p106 : 0 ≤ (1 : Int) := (by omega)
           have q106 : 1 < (((rd_T156 l0_0 a1).f2).length : Int) := of_decide_eq_true as_
           obtain ⟨ad106, e106, hx106_0⟩ := Kd.at_int HR102_2.o 1 p106 q106; have hw106_0 := hx106_0
           (try rw [show ((1 : Int)).toNat = 1 from rfl] at hw106_0)
           (try rw [show 1 * 1 = 1 from rfl] at hw106_0)
           (try simp only [Nat.reduceMul, Nat.reduceEqDiff, Go.Addr.add, ↓reduceIte] at hw106_0)
           obtain rfl : ad104 = ad106 := (by injection e106)
           (try simp only [show (1 : Int).toNat = 1 from rfl, Nat.reduceMul, Nat.reduceEqDiff, Go.Addr.add, ↓reduceIte] at hx106_0)
           have qi106 : (1 < ((rd_T156 l0_0 a1).f2).length) = True := eq_true (by omega)
           (try rw [show ((1 : Int)).toNat = 1 from rfl] at hx106_0)
           replace hx106_0 := mv_ HB.o hx106_0; replace p106 := eq_true p106; replace q106 := eq_true q106
           refine start_ (n := 15) (S := fun w' => w'.cell? ⟨gb101, 0, none⟩ = some (.slice (some ad102) l0_0.length c0_0) ∧ w'.cell? ⟨gb103, 0, none⟩ = some (.int .i64 ((rd_T156 l0_0 a1).f0)) ∧ w'.cell? ⟨gb103, 1, none⟩ = some (.slice A102_1 ((rd_T156 l0_0 a1).f1).length c102_1) ∧ w'.cell? ⟨gb103, 2, none⟩ = some (.slice (some ad104) ((rd_T156 l0_0 a1).f2).length c102_2) ∧ w'.cell? ⟨gb103, 3, none⟩ = some (.int .i64 ((rd_T156 l0_0 a1).f3)) ∧ w'.cell? ⟨gb103, 4, none⟩ = some (.int .i64 ((rd_T156 l0_0 a1).f4)) ∧ w'.cell? ad104 = some (.int .i64 (rd ((rd_T156 l0_0 a1).f2) 0)) ∧ w'.cell? ⟨ad104.block, ad104.off + 1, none⟩ = some (.int .i64 (rd ((rd_T156 l0_0 a1).f2) 1))) (ds := []) (bb 15 0) (by kernel_rfl) rfl rfl ⟨(blk_cell BK101.o 0).trans rfl, (blk_cell BK103.o 0).trans rfl, (blk_cell BK103.o 1).trans rfl, (blk_cell BK103.o 2).trans rfl, (blk_cell BK103.o 3).trans rfl, (blk_cell BK103.o 4).trans rfl, (mv_ HB.o hw104_0), (mv_ HB.o hw106_0)⟩ (fun hHeld => ?_); refine with_tabW impl_Rx_nullable.tab10 impl_Rx_nullable.bits10 (fun HT_ HW_ => ?_)
           generalize wc.drew = w21 at BK101 BK103 HB hx104_0 hx106_0 hHeld ⊢
           refine pv_ 1 22 2 HT_.o ?_; refine tv_ 0 21 3 HT_.o HW_.o hHeld ?_; refine tv_ 2 23 7 HT_.o HW_.o hHeld ?_; refine pv_ 3 24 15 HT_.o ?_; refine tv_ 4 25 31 HT_.o HW_.o hHeld ?_
           refine one_ (i := 5) (N := some 26) (bb 15 63) rfl rfl (one_of HT_.o (by kernel_rfl)) (by decide) (fun K hK => ?_)
           refine gs_ Try.func68 #[.agg #[.slice (some ad102) l0_0.length c0_0], .int .i64 (rd ((rd_T156 l0_0 a1).f2) 0)] ?_
           with_reducible refine (ih kj4 (by have := HJ4.o; omega) _ _ l0_0 (rd ((rd_T156 l0_0 a1).f2) 0) true _ ?side1 ?side2 A17.o).mono ?_
           (case side1 => exact Kd.C_below HR0_0.o (be_ HB.o))
           (case side2 => exact HC0_0.o)
           rintro e w22 ⟨rfl, hb⟩
           refine ⟨_, rfl, ?_⟩; replace BK101 := lb_ BK101 hb; replace BK103 := lb_ BK103 hb; replace HB := sb2_ HB GE101 GE103 hb
           (try clear hb)
           (try clear hb2)
           (try clear hk)
           (try clear hi)
           refine hK.out _ _ ⟨(blk_cell BK101.o 0).trans rfl, (blk_cell BK103.o 0).trans rfl, (blk_cell BK103.o 1).trans rfl, (blk_cell BK103.o 2).trans rfl, (blk_cell BK103.o 3).trans rfl, (blk_cell BK103.o 4).trans rfl, (mv_ HB.o hw104_0), (mv_ HB.o hw106_0)⟩ (fun hHeld => ?_)
           clear hK K; refine no_ (some 26) ?_; refine pv_ 6 27 127 HT_.o ?_; refine pv_ 8 29 383 HT_.o ?_; refine tv_ 7 28 511 HT_.o HW_.o hHeld ?_; refine tv_ 9 30 1023 HT_.o HW_.o hHeld ?_; refine pv_ 10 31 2047 HT_.o ?_; refine tv_ 11 32 4095 HT_.o HW_.o hHeld ?_
           refine one_ (i := 12) (N := some 33) (bb 15 8191) rfl rfl (one_of HT_.o (by kernel_rfl)) (by decide) (fun K hK => ?_)
           refine gs_ Try.func68 #[.agg #[.slice (some ad102) l0_0.length c0_0], .int .i64 (rd ((rd_T156 l0_0 a1).f2) 1)] ?_
           with_reducible refine (ih kj4 (by have := HJ4.o; omega) _ _ l0_0 (rd ((rd_T156 l0_0 a1).f2) 1) t107 _ ?side1 ?side2 A20.o).mono ?_
           (case side1 => exact Kd.C_below HR0_0.o (be_ HB.o))
           (case side2 => exact HC0_0.o)
           rintro e w23 ⟨rfl, hb⟩
           refine ⟨_, rfl, ?_⟩; replace BK101 := lb_ BK101 hb; replace BK103 := lb_ BK103 hb; replace HB := sb2_ HB GE101 GE103 hb
           (try clear hb)
           (try clear hb2)
           (try clear hk)
           (try clear hi)
           refine hK.out _ _ ⟨(blk_cell BK101.o 0).trans rfl, (blk_cell BK103.o 0).trans rfl, (blk_cell BK103.o 1).trans rfl, (blk_cell BK103.o 2).trans rfl, (blk_cell BK103.o 3).trans rfl, (blk_cell BK103.o 4).trans rfl, (mv_ HB.o hw104_0), (mv_ HB.o hw106_0)⟩ (fun hHeld => ?_)
           clear hK K; refine no_ (some 33) ?_; refine pv_ 13 34 16383 HT_.o ?_; refine pv_ 14 4 32767 HT_.o ?_
           refine done_ (done_of HT_.o (by kernel_rfl)) ?_
           try go_wp2
           go_ret
           exact ⟨rt_, be2_ HB.o GE101.o GE103.o⟩
          ·rw [if_neg c19] at H
           exact absurd H (by simp)
         ·replace c18 := Bool.eq_false_iff.mpr c18; subst c18; rw [if_neg nft_] at H; obtain rfl := Option.some.inj H
          try go_wp2
          replace BK101 := q_ (blk_drew BK101.o); replace BK103 := q_ (blk_drew BK103.o); replace HB := q_ (below_drew1 HB.o)
          have p104 : 0 ≤ (0 : Int) := (by omega)
          have q104 : 0 < (((rd_T156 l0_0 a1).f2).length : Int) := of_decide_eq_true as_
          obtain ⟨ad104, e104, hx104_0⟩ := Kd.at_int HR102_2.o 0 p104 q104; have hw104_0 := hx104_0
          (try rw [show ((0 : Int)).toNat = 0 from rfl] at hw104_0)
          (try rw [show 0 * 1 = 0 from rfl] at hw104_0)
          (try rw [Addr.add_zero'] at hw104_0)
          cases e104
          have qi104 : (0 < ((rd_T156 l0_0 a1).f2).length) = True := eq_true (by omega)
          (try rw [show ((0 : Int)).toNat = 0 from rfl] at hx104_0)
          (try rw [Addr.add_zero'] at hx104_0)
          replace hx104_0 := mv_ HB.o hx104_0; replace p104 := eq_true p104; replace q104 := eq_true q104
          refine start_ (n := 15) (S := fun w' => w'.cell? ⟨gb101, 0, none⟩ = some (.slice (some ad102) l0_0.length c0_0) ∧ w'.cell? ⟨gb103, 0, none⟩ = some (.int .i64 ((rd_T156 l0_0 a1).f0)) ∧ w'.cell? ⟨gb103, 1, none⟩ = some (.slice A102_1 ((rd_T156 l0_0 a1).f1).length c102_1) ∧ w'.cell? ⟨gb103, 2, none⟩ = some (.slice (some ad104) ((rd_T156 l0_0 a1).f2).length c102_2) ∧ w'.cell? ⟨gb103, 3, none⟩ = some (.int .i64 ((rd_T156 l0_0 a1).f3)) ∧ w'.cell? ⟨gb103, 4, none⟩ = some (.int .i64 ((rd_T156 l0_0 a1).f4)) ∧ w'.cell? ad104 = some (.int .i64 (rd ((rd_T156 l0_0 a1).f2) 0))) (ds := []) (bb 15 0) (by kernel_rfl) rfl rfl ⟨(blk_cell BK101.o 0).trans rfl, (blk_cell BK103.o 0).trans rfl, (blk_cell BK103.o 1).trans rfl, (blk_cell BK103.o 2).trans rfl, (blk_cell BK103.o 3).trans rfl, (blk_cell BK103.o 4).trans rfl, (mv_ HB.o hw104_0)⟩ (fun hHeld => ?_); refine with_tabW impl_Rx_nullable.tab10 impl_Rx_nullable.bits10 (fun HT_ HW_ => ?_)
          generalize wc.drew = w24 at BK101 BK103 HB hx104_0 hHeld ⊢
          refine pv_ 1 22 2 HT_.o ?_; refine tv_ 0 21 3 HT_.o HW_.o hHeld ?_; refine tv_ 2 23 7 HT_.o HW_.o hHeld ?_; refine pv_ 3 24 15 HT_.o ?_; refine tv_ 4 25 31 HT_.o HW_.o hHeld ?_
          refine one_ (i := 5) (N := some 26) (bb 15 63) rfl rfl (one_of HT_.o (by kernel_rfl)) (by decide) (fun K hK => ?_)
          refine gs_ Try.func68 #[.agg #[.slice (some ad102) l0_0.length c0_0], .int .i64 (rd ((rd_T156 l0_0 a1).f2) 0)] ?_
          with_reducible refine (ih kj4 (by have := HJ4.o; omega) _ _ l0_0 (rd ((rd_T156 l0_0 a1).f2) 0) false _ ?side1 ?side2 A17.o).mono ?_
          (case side1 => exact Kd.C_below HR0_0.o (be_ HB.o))
          (case side2 => exact HC0_0.o)
          rintro e w25 ⟨rfl, hb⟩
          refine ⟨_, rfl, ?_⟩; replace BK101 := lb_ BK101 hb; replace BK103 := lb_ BK103 hb; replace HB := sb2_ HB GE101 GE103 hb
          (try clear hb)
          (try clear hb2)
          (try clear hk)
          (try clear hi)
          refine hK.out _ _ ⟨(blk_cell BK101.o 0).trans rfl, (blk_cell BK103.o 0).trans rfl, (blk_cell BK103.o 1).trans rfl, (blk_cell BK103.o 2).trans rfl, (blk_cell BK103.o 3).trans rfl, (blk_cell BK103.o 4).trans rfl, (mv_ HB.o hw104_0)⟩ (fun hHeld => ?_)
          clear hK K; refine no_ (some 26) ?_; refine pv_ 6 27 127 HT_.o ?_; refine pw_ 7 (some 28) (bb 15 255) HT_.o ?_; refine pw_ 8 (some 29) (bb 15 511) HT_.o ?_; refine pw_ 9 (some 30) (bb 15 1023) HT_.o ?_; refine pw_ 10 (some 31) (bb 15 2047) HT_.o ?_; refine pw_ 11 (some 32) (bb 15 4095) HT_.o ?_; refine pw_ 12 (some 33) (bb 15 8191) HT_.o ?_; refine pv_ 13 34 16383 HT_.o ?_; refine pv_ 14 4 32767 HT_.o ?_
          refine done_ (done_of HT_.o (by kernel_rfl)) ?_
          try go_wp2
          go_ret
          exact ⟨rt_, be2_ HB.o GE101.o GE103.o⟩
        ·rw [if_neg c16] at H
         exact absurd H (by simp)
       ·rw [if_neg c15] at H
        have c15b0 : (((rd_T156 l0_0 a1).f0) == 3) = false := beq_eq_false_iff_ne.mpr c15
        have c15b1 : (((rd_T156 l0_0 a1).f0) != 3) = true := bne_iff_ne.mpr c15
        by_cases c26 : ((rd_T156 l0_0 a1).f0) = 4
        ·rw [if_pos c26] at H
         have c26b0 : (((rd_T156 l0_0 a1).f0) == 4) = true := beq_iff_eq.mpr c26
         have c26b1 : (((rd_T156 l0_0 a1).f0) != 4) = false := bne_eq_false_iff_eq.mpr c26
         clear c26
         by_cases c27 : 0 < (((rd_T156 l0_0 a1).f2).length : Int)
         ·rw [if_pos c27] at H; have c27b0 := dt_ c27
          have c27b1 : decide (0 < ((rd_T156 l0_0 a1).f2).length) = true := decide_eq_true (by omega)
          clear c27; obtain ⟨t109, A28, H⟩ := ob_ H
          by_cases c29 : t109 = true
          ·subst c29; rw [if_pos rfl] at H; obtain rfl := Option.some.inj H
           try go_wp2
           replace BK101 := q_ (blk_drew BK101.o); replace BK103 := q_ (blk_drew BK103.o); replace HB := q_ (below_drew1 HB.o)
           have p108 : 0 ≤ (0 : Int) := (by omega)
           have q108 : 0 < (((rd_T156 l0_0 a1).f2).length : Int) := of_decide_eq_true as_
           obtain ⟨ad108, e108, hx108_0⟩ := Kd.at_int HR102_2.o 0 p108 q108; have hw108_0 := hx108_0
           (try rw [show ((0 : Int)).toNat = 0 from rfl] at hw108_0)
           (try rw [show 0 * 1 = 0 from rfl] at hw108_0)
           (try rw [Addr.add_zero'] at hw108_0)
           cases e108
           have qi108 : (0 < ((rd_T156 l0_0 a1).f2).length) = True := eq_true (by omega)
           (try rw [show ((0 : Int)).toNat = 0 from rfl] at hx108_0)
           (try rw [Addr.add_zero'] at hx108_0)
           replace hx108_0 := mv_ HB.o hx108_0; replace p108 := eq_true p108; replace q108 := eq_true q108
           refine start_ (n := 15) (S := fun w' => w'.cell? ⟨gb101, 0, none⟩ = some (.slice (some ad102) l0_0.length c0_0) ∧ w'.cell? ⟨gb103, 0, none⟩ = some (.int .i64 ((rd_T156 l0_0 a1).f0)) ∧ w'.cell? ⟨gb103, 1, none⟩ = some (.slice A102_1 ((rd_T156 l0_0 a1).f1).length c102_1) ∧ w'.cell? ⟨gb103, 2, none⟩ = some (.slice (some ad108) ((rd_T156 l0_0 a1).f2).length c102_2) ∧ w'.cell? ⟨gb103, 3, none⟩ = some (.int .i64 ((rd_T156 l0_0 a1).f3)) ∧ w'.cell? ⟨gb103, 4, none⟩ = some (.int .i64 ((rd_T156 l0_0 a1).f4)) ∧ w'.cell? ad108 = some (.int .i64 (rd ((rd_T156 l0_0 a1).f2) 0))) (ds := []) (bb 15 0) (by kernel_rfl) rfl rfl ⟨(blk_cell BK101.o 0).trans rfl, (blk_cell BK103.o 0).trans rfl, (blk_cell BK103.o 1).trans rfl, (blk_cell BK103.o 2).trans rfl, (blk_cell BK103.o 3).trans rfl, (blk_cell BK103.o 4).trans rfl, (mv_ HB.o hw108_0)⟩ (fun hHeld => ?_); refine with_tabW impl_Rx_nullable.tab12 impl_Rx_nullable.bits12 (fun HT_ HW_ => ?_)
           generalize wc.drew = w30 at BK101 BK103 HB hx108_0 hHeld ⊢
           refine pv_ 1 38 2 HT_.o ?_; refine tv_ 0 37 3 HT_.o HW_.o hHeld ?_; refine tv_ 2 39 7 HT_.o HW_.o hHeld ?_; refine pv_ 3 40 15 HT_.o ?_; refine tv_ 4 41 31 HT_.o HW_.o hHeld ?_
           refine one_ (i := 5) (N := some 42) (bb 15 63) rfl rfl (one_of HT_.o (by kernel_rfl)) (by decide) (fun K hK => ?_)
           refine gs_ Try.func68 #[.agg #[.slice (some ad102) l0_0.length c0_0], .int .i64 (rd ((rd_T156 l0_0 a1).f2) 0)] ?_
           with_reducible refine (ih kj4 (by have := HJ4.o; omega) _ _ l0_0 (rd ((rd_T156 l0_0 a1).f2) 0) true _ ?side1 ?side2 A28.o).mono ?_
           (case side1 => exact Kd.C_below HR0_0.o (be_ HB.o))
           (case side2 => exact HC0_0.o)
           rintro e w31 ⟨rfl, hb⟩
           refine ⟨_, rfl, ?_⟩; replace BK101 := lb_ BK101 hb; replace BK103 := lb_ BK103 hb; replace HB := sb2_ HB GE101 GE103 hb
           (try clear hb)
           (try clear hb2)
           (try clear hk)
           (try clear hi)
           refine hK.out _ _ ⟨(blk_cell BK101.o 0).trans rfl, (blk_cell BK103.o 0).trans rfl, (blk_cell BK103.o 1).trans rfl, (blk_cell BK103.o 2).trans rfl, (blk_cell BK103.o 3).trans rfl, (blk_cell BK103.o 4).trans rfl, (mv_ HB.o hw108_0)⟩ (fun hHeld => ?_)
           clear hK K; refine no_ (some 42) ?_; refine pv_ 6 43 127 HT_.o ?_; refine pw_ 7 (some 44) (bb 15 255) HT_.o ?_; refine pw_ 8 (some 45) (bb 15 511) HT_.o ?_; refine pw_ 9 (some 46) (bb 15 1023) HT_.o ?_; refine pw_ 10 (some 47) (bb 15 2047) HT_.o ?_; refine pw_ 11 (some 48) (bb 15 4095) HT_.o ?_; refine pw_ 12 (some 49) (bb 15 8191) HT_.o ?_; refine pv_ 13 50 16383 HT_.o ?_; refine pv_ 14 4 32767 HT_.o ?_
           refine done_ (done_of HT_.o (by kernel_rfl)) ?_
           try go_wp2
           go_ret
           exact ⟨rt_, be2_ HB.o GE101.o GE103.o⟩
          ·replace c29 := Bool.eq_false_iff.mpr c29; subst c29; rw [if_neg nft_] at H
           by_cases c32 : 1 < (((rd_T156 l0_0 a1).f2).length : Int)
           ·rw [if_pos c32] at H; have c32b0 := dt_ c32
            have c32b1 : decide (1 < ((rd_T156 l0_0 a1).f2).length) = true := decide_eq_true (by omega)
            clear c32; obtain ⟨t111, A33, H⟩ := ob_ H; obtain rfl := Option.some.inj H
            try go_wp2
            replace BK101 := q_ (blk_drew BK101.o); replace BK103 := q_ (blk_drew BK103.o); replace HB := q_ (below_drew1 HB.o)
            have p108 : 0 ≤ (0 : Int) := (by omega)
            have q108 : 0 < (((rd_T156 l0_0 a1).f2).length : Int) := of_decide_eq_true as_
            obtain ⟨ad108, e108, hx108_0⟩ := Kd.at_int HR102_2.o 0 p108 q108; have hw108_0 := hx108_0
            (try rw [show ((0 : Int)).toNat = 0 from rfl] at hw108_0)
            (try rw [show 0 * 1 = 0 from rfl] at hw108_0)
            (try rw [Addr.add_zero'] at hw108_0)
            cases e108
            have qi108 : (0 < ((rd_T156 l0_0 a1).f2).length) = True := eq_true (by omega)
            (try rw [show ((0 : Int)).toNat = 0 from rfl] at hx108_0)
            (try rw [Addr.add_zero'] at hx108_0)
            replace hx108_0 := mv_ HB.o hx108_0; replace p108 := eq_true p108; replace q108 := eq_true q108
            have p110 : 0 ≤ (1 : Int) := (by omega)
            have q110 : 1 < (((rd_T156 l0_0 a1).f2).length : Int) := of_decide_eq_true as_
            obtain ⟨ad110, e110, hx110_0⟩ := Kd.at_int HR102_2.o 1 p110 q110; have hw110_0 := hx110_0
            (try rw [show ((1 : Int)).toNat = 1 from rfl] at hw110_0)
            (try rw [show 1 * 1 = 1 from rfl] at hw110_0)
            (try simp only [Nat.reduceMul, Nat.reduceEqDiff, Go.Addr.add, ↓reduceIte] at hw110_0)
            obtain rfl : ad108 = ad110 := (by injection e110)
            (try simp only [show (1 : Int).toNat = 1 from rfl, Nat.reduceMul, Nat.reduceEqDiff, Go.Addr.add, ↓reduceIte] at hx110_0)
            have qi110 : (1 < ((rd_T156 l0_0 a1).f2).length) = True := eq_true (by omega)
            (try rw [show ((1 : Int)).toNat = 1 from rfl] at hx110_0)
            replace hx110_0 := mv_ HB.o hx110_0; replace p110 := eq_true p110; replace q110 := eq_true q110
            refine start_ (n := 15) (S := fun w' => w'.cell? ⟨gb101, 0, none⟩ = some (.slice (some ad102) l0_0.length c0_0) ∧ w'.cell? ⟨gb103, 0, none⟩ = some (.int .i64 ((rd_T156 l0_0 a1).f0)) ∧ w'.cell? ⟨gb103, 1, none⟩ = some (.slice A102_1 ((rd_T156 l0_0 a1).f1).length c102_1) ∧ w'.cell? ⟨gb103, 2, none⟩ = some (.slice (some ad108) ((rd_T156 l0_0 a1).f2).length c102_2) ∧ w'.cell? ⟨gb103, 3, none⟩ = some (.int .i64 ((rd_T156 l0_0 a1).f3)) ∧ w'.cell? ⟨gb103, 4, none⟩ = some (.int .i64 ((rd_T156 l0_0 a1).f4)) ∧ w'.cell? ad108 = some (.int .i64 (rd ((rd_T156 l0_0 a1).f2) 0)) ∧ w'.cell? ⟨ad108.block, ad108.off + 1, none⟩ = some (.int .i64 (rd ((rd_T156 l0_0 a1).f2) 1))) (ds := []) (bb 15 0) (by kernel_rfl) rfl rfl ⟨(blk_cell BK101.o 0).trans rfl, (blk_cell BK103.o 0).trans rfl, (blk_cell BK103.o 1).trans rfl, (blk_cell BK103.o 2).trans rfl, (blk_cell BK103.o 3).trans rfl, (blk_cell BK103.o 4).trans rfl, (mv_ HB.o hw108_0), (mv_ HB.o hw110_0)⟩ (fun hHeld => ?_); refine with_tabW impl_Rx_nullable.tab12 impl_Rx_nullable.bits12 (fun HT_ HW_ => ?_)
            generalize wc.drew = w34 at BK101 BK103 HB hx108_0 hx110_0 hHeld ⊢
            refine pv_ 1 38 2 HT_.o ?_; refine tv_ 0 37 3 HT_.o HW_.o hHeld ?_; refine tv_ 2 39 7 HT_.o HW_.o hHeld ?_; refine pv_ 3 40 15 HT_.o ?_; refine tv_ 4 41 31 HT_.o HW_.o hHeld ?_
            refine one_ (i := 5) (N := some 42) (bb 15 63) rfl rfl (one_of HT_.o (by kernel_rfl)) (by decide) (fun K hK => ?_)
            refine gs_ Try.func68 #[.agg #[.slice (some ad102) l0_0.length c0_0], .int .i64 (rd ((rd_T156 l0_0 a1).f2) 0)] ?_
            with_reducible refine (ih kj4 (by have := HJ4.o; omega) _ _ l0_0 (rd ((rd_T156 l0_0 a1).f2) 0) false _ ?side1 ?side2 A28.o).mono ?_
            (case side1 => exact Kd.C_below HR0_0.o (be_ HB.o))
            (case side2 => exact HC0_0.o)
            rintro e w35 ⟨rfl, hb⟩
            refine ⟨_, rfl, ?_⟩; replace BK101 := lb_ BK101 hb; replace BK103 := lb_ BK103 hb; replace HB := sb2_ HB GE101 GE103 hb
            (try clear hb)
            (try clear hb2)
            (try clear hk)
            (try clear hi)
            refine hK.out _ _ ⟨(blk_cell BK101.o 0).trans rfl, (blk_cell BK103.o 0).trans rfl, (blk_cell BK103.o 1).trans rfl, (blk_cell BK103.o 2).trans rfl, (blk_cell BK103.o 3).trans rfl, (blk_cell BK103.o 4).trans rfl, (mv_ HB.o hw108_0), (mv_ HB.o hw110_0)⟩ (fun hHeld => ?_)
            clear hK K; refine no_ (some 42) ?_; refine pv_ 6 43 127 HT_.o ?_; refine pv_ 8 45 383 HT_.o ?_; refine tv_ 7 44 511 HT_.o HW_.o hHeld ?_; refine tv_ 9 46 1023 HT_.o HW_.o hHeld ?_; refine pv_ 10 47 2047 HT_.o ?_; refine tv_ 11 48 4095 HT_.o HW_.o hHeld ?_
            refine one_ (i := 12) (N := some 49) (bb 15 8191) rfl rfl (one_of HT_.o (by kernel_rfl)) (by decide) (fun K hK => ?_)
            refine gs_ Try.func68 #[.agg #[.slice (some ad102) l0_0.length c0_0], .int .i64 (rd ((rd_T156 l0_0 a1).f2) 1)] ?_
            with_reducible refine (ih kj4 (by have := HJ4.o; omega) _ _ l0_0 (rd ((rd_T156 l0_0 a1).f2) 1) t111 _ ?side1 ?side2 A33.o).mono ?_
            (case side1 => exact Kd.C_below HR0_0.o (be_ HB.o))
            (case side2 => exact HC0_0.o)
            rintro e w36 ⟨rfl, hb⟩
            refine ⟨_, rfl, ?_⟩; replace BK101 := lb_ BK101 hb; replace BK103 := lb_ BK103 hb; replace HB := sb2_ HB GE101 GE103 hb
            (try clear hb)
            (try clear hb2)
            (try clear hk)
            (try clear hi)
            refine hK.out _ _ ⟨(blk_cell BK101.o 0).trans rfl, (blk_cell BK103.o 0).trans rfl, (blk_cell BK103.o 1).trans rfl, (blk_cell BK103.o 2).trans rfl, (blk_cell BK103.o 3).trans rfl, (blk_cell BK103.o 4).trans rfl, (mv_ HB.o hw108_0), (mv_ HB.o hw110_0)⟩ (fun hHeld => ?_)
            clear hK K; refine no_ (some 49) ?_; refine pv_ 13 50 16383 HT_.o ?_; refine pv_ 14 4 32767 HT_.o ?_
            refine done_ (done_of HT_.o (by kernel_rfl)) ?_
            try go_wp2
            go_ret
            exact ⟨rt_, be2_ HB.o GE101.o GE103.o⟩
           ·rw [if_neg c32] at H
            exact absurd H (by simp)
         ·rw [if_neg c27] at H
          exact absurd H (by simp)
        ·rw [if_neg c26] at H
         have c26b0 : (((rd_T156 l0_0 a1).f0) == 4) = false := beq_eq_false_iff_ne.mpr c26
         have c26b1 : (((rd_T156 l0_0 a1).f0) != 4) = true := bne_iff_ne.mpr c26
         by_cases c37 : ((rd_T156 l0_0 a1).f0) = 8
         ·rw [if_pos c37] at H
          have c37b0 : (((rd_T156 l0_0 a1).f0) == 8) = true := beq_iff_eq.mpr c37
          have c37b1 : (((rd_T156 l0_0 a1).f0) != 8) = false := bne_eq_false_iff_eq.mpr c37
          clear c37
          by_cases c38 : ((rd_T156 l0_0 a1).f3) = 0
          ·rw [if_pos c38] at H
           have c38b0 : (((rd_T156 l0_0 a1).f3) == 0) = true := beq_iff_eq.mpr c38
           have c38b1 : (((rd_T156 l0_0 a1).f3) != 0) = false := bne_eq_false_iff_eq.mpr c38
           clear c38; obtain rfl := Option.some.inj H
           try go_wp2
           replace BK101 := q_ (blk_drew BK101.o); replace BK103 := q_ (blk_drew BK103.o); replace HB := q_ (below_drew1 HB.o)
           refine start_ (n := 17) (S := fun w' => w'.cell? ⟨gb103, 0, none⟩ = some (.int .i64 ((rd_T156 l0_0 a1).f0)) ∧ w'.cell? ⟨gb103, 1, none⟩ = some (.slice A102_1 ((rd_T156 l0_0 a1).f1).length c102_1) ∧ w'.cell? ⟨gb103, 2, none⟩ = some (.slice A102_2 ((rd_T156 l0_0 a1).f2).length c102_2) ∧ w'.cell? ⟨gb103, 3, none⟩ = some (.int .i64 ((rd_T156 l0_0 a1).f3)) ∧ w'.cell? ⟨gb103, 4, none⟩ = some (.int .i64 ((rd_T156 l0_0 a1).f4))) (ds := []) (bb 17 0) (by kernel_rfl) rfl rfl ⟨(blk_cell BK103.o 0).trans rfl, (blk_cell BK103.o 1).trans rfl, (blk_cell BK103.o 2).trans rfl, (blk_cell BK103.o 3).trans rfl, (blk_cell BK103.o 4).trans rfl⟩ (fun hHeld => ?_); refine with_tabW impl_Rx_nullable.tab13 impl_Rx_nullable.bits13 (fun HT_ HW_ => ?_)
           generalize wc.drew = w39 at BK101 BK103 HB hHeld ⊢
           refine pv_ 0 51 1 HT_.o ?_; refine tv_ 1 52 3 HT_.o HW_.o hHeld ?_; refine pv_ 2 53 7 HT_.o ?_; refine pv_ 3 54 15 HT_.o ?_; refine pv_ 4 55 31 HT_.o ?_; refine tv_ 5 56 63 HT_.o HW_.o hHeld ?_; refine pv_ 6 57 127 HT_.o ?_; refine pv_ 7 58 255 HT_.o ?_; refine pv_ 8 59 511 HT_.o ?_; refine pw_ 9 (some 60) (bb 17 1023) HT_.o ?_; refine pw_ 10 (some 61) (bb 17 2047) HT_.o ?_; refine pw_ 11 (some 62) (bb 17 4095) HT_.o ?_; refine pw_ 12 (some 63) (bb 17 8191) HT_.o ?_; refine pw_ 13 (some 64) (bb 17 16383) HT_.o ?_; refine pw_ 14 (some 65) (bb 17 32767) HT_.o ?_; refine pv_ 15 66 65535 HT_.o ?_; refine pv_ 16 4 131071 HT_.o ?_
           refine done_ (done_of HT_.o (by kernel_rfl)) ?_
           try go_wp2
           go_ret
           exact ⟨rt_, be2_ HB.o GE101.o GE103.o⟩
          ·rw [if_neg c38] at H
           have c38b0 : (((rd_T156 l0_0 a1).f3) == 0) = false := beq_eq_false_iff_ne.mpr c38
           have c38b1 : (((rd_T156 l0_0 a1).f3) != 0) = true := bne_iff_ne.mpr c38
           by_cases c40 : 0 < (((rd_T156 l0_0 a1).f2).length : Int)
           ·rw [if_pos c40] at H; have c40b0 := dt_ c40
            have c40b1 : decide (0 < ((rd_T156 l0_0 a1).f2).length) = true := decide_eq_true (by omega)
            clear c40; obtain ⟨t113, A41, H⟩ := ob_ H; obtain rfl := Option.some.inj H
            try go_wp2
            replace BK101 := q_ (blk_drew BK101.o); replace BK103 := q_ (blk_drew BK103.o); replace HB := q_ (below_drew1 HB.o)
            have p112 : 0 ≤ (0 : Int) := (by omega)
            have q112 : 0 < (((rd_T156 l0_0 a1).f2).length : Int) := of_decide_eq_true as_
            obtain ⟨ad112, e112, hx112_0⟩ := Kd.at_int HR102_2.o 0 p112 q112; have hw112_0 := hx112_0
            (try rw [show ((0 : Int)).toNat = 0 from rfl] at hw112_0)
            (try rw [show 0 * 1 = 0 from rfl] at hw112_0)
            (try rw [Addr.add_zero'] at hw112_0)
            cases e112
            have qi112 : (0 < ((rd_T156 l0_0 a1).f2).length) = True := eq_true (by omega)
            (try rw [show ((0 : Int)).toNat = 0 from rfl] at hx112_0)
            (try rw [Addr.add_zero'] at hx112_0)
            replace hx112_0 := mv_ HB.o hx112_0; replace p112 := eq_true p112; replace q112 := eq_true q112
            refine start_ (n := 17) (S := fun w' => w'.cell? ⟨gb103, 0, none⟩ = some (.int .i64 ((rd_T156 l0_0 a1).f0)) ∧ w'.cell? ⟨gb103, 1, none⟩ = some (.slice A102_1 ((rd_T156 l0_0 a1).f1).length c102_1) ∧ w'.cell? ⟨gb103, 2, none⟩ = some (.slice (some ad112) ((rd_T156 l0_0 a1).f2).length c102_2) ∧ w'.cell? ⟨gb103, 3, none⟩ = some (.int .i64 ((rd_T156 l0_0 a1).f3)) ∧ w'.cell? ⟨gb103, 4, none⟩ = some (.int .i64 ((rd_T156 l0_0 a1).f4)) ∧ w'.cell? ⟨gb101, 0, none⟩ = some (.slice (some ad102) l0_0.length c0_0) ∧ w'.cell? ad112 = some (.int .i64 (rd ((rd_T156 l0_0 a1).f2) 0))) (ds := []) (bb 17 0) (by kernel_rfl) rfl rfl ⟨(blk_cell BK103.o 0).trans rfl, (blk_cell BK103.o 1).trans rfl, (blk_cell BK103.o 2).trans rfl, (blk_cell BK103.o 3).trans rfl, (blk_cell BK103.o 4).trans rfl, (blk_cell BK101.o 0).trans rfl, (mv_ HB.o hw112_0)⟩ (fun hHeld => ?_); refine with_tabW impl_Rx_nullable.tab13 impl_Rx_nullable.bits13 (fun HT_ HW_ => ?_)
            generalize wc.drew = w42 at BK101 BK103 HB hx112_0 hHeld ⊢
            refine pv_ 0 51 1 HT_.o ?_; refine tv_ 1 52 3 HT_.o HW_.o hHeld ?_; refine pv_ 2 53 7 HT_.o ?_; refine pv_ 3 54 15 HT_.o ?_; refine pv_ 4 55 31 HT_.o ?_; refine tv_ 5 56 63 HT_.o HW_.o hHeld ?_; refine pv_ 6 57 127 HT_.o ?_; refine pv_ 7 58 255 HT_.o ?_; refine pv_ 8 59 511 HT_.o ?_; refine pv_ 10 61 1535 HT_.o ?_; refine tv_ 9 60 2047 HT_.o HW_.o hHeld ?_; refine tv_ 11 62 4095 HT_.o HW_.o hHeld ?_; refine pv_ 12 63 8191 HT_.o ?_; refine tv_ 13 64 16383 HT_.o HW_.o hHeld ?_
            refine one_ (i := 14) (N := some 65) (bb 17 32767) rfl rfl (one_of HT_.o (by kernel_rfl)) (by decide) (fun K hK => ?_)
            refine gs_ Try.func68 #[.agg #[.slice (some ad102) l0_0.length c0_0], .int .i64 (rd ((rd_T156 l0_0 a1).f2) 0)] ?_
            with_reducible refine (ih kj4 (by have := HJ4.o; omega) _ _ l0_0 (rd ((rd_T156 l0_0 a1).f2) 0) t113 _ ?side1 ?side2 A41.o).mono ?_
            (case side1 => exact Kd.C_below HR0_0.o (be_ HB.o))
            (case side2 => exact HC0_0.o)
            rintro e w43 ⟨rfl, hb⟩
            refine ⟨_, rfl, ?_⟩; replace BK101 := lb_ BK101 hb; replace BK103 := lb_ BK103 hb; replace HB := sb2_ HB GE101 GE103 hb
            (try clear hb)
            (try clear hb2)
            (try clear hk)
            (try clear hi)
            refine hK.out _ _ ⟨(blk_cell BK103.o 0).trans rfl, (blk_cell BK103.o 1).trans rfl, (blk_cell BK103.o 2).trans rfl, (blk_cell BK103.o 3).trans rfl, (blk_cell BK103.o 4).trans rfl, (blk_cell BK101.o 0).trans rfl, (mv_ HB.o hw112_0)⟩ (fun hHeld => ?_)
            clear hK K; refine no_ (some 65) ?_; refine pv_ 15 66 65535 HT_.o ?_; refine pv_ 16 4 131071 HT_.o ?_
            refine done_ (done_of HT_.o (by kernel_rfl)) ?_
            try go_wp2
            go_ret
            exact ⟨rt_, be2_ HB.o GE101.o GE103.o⟩
           ·rw [if_neg c40] at H
            exact absurd H (by simp)
         ·rw [if_neg c37] at H
          have c37b0 : (((rd_T156 l0_0 a1).f0) == 8) = false := beq_eq_false_iff_ne.mpr c37
          have c37b1 : (((rd_T156 l0_0 a1).f0) != 8) = true := bne_iff_ne.mpr c37
          by_cases c44 : 0 < (((rd_T156 l0_0 a1).f2).length : Int)
          ·rw [if_pos c44] at H; have c44b0 := dt_ c44
           have c44b1 : decide (0 < ((rd_T156 l0_0 a1).f2).length) = true := decide_eq_true (by omega)
           clear c44; obtain ⟨t115, A45, H⟩ := ob_ H; obtain rfl := Option.some.inj H
           try go_wp2
           replace BK101 := q_ (blk_drew BK101.o); replace BK103 := q_ (blk_drew BK103.o); replace HB := q_ (below_drew1 HB.o)
           have p114 : 0 ≤ (0 : Int) := (by omega)
           have q114 : 0 < (((rd_T156 l0_0 a1).f2).length : Int) := of_decide_eq_true as_
           obtain ⟨ad114, e114, hx114_0⟩ := Kd.at_int HR102_2.o 0 p114 q114; have hw114_0 := hx114_0
           (try rw [show ((0 : Int)).toNat = 0 from rfl] at hw114_0)
           (try rw [show 0 * 1 = 0 from rfl] at hw114_0)
           (try rw [Addr.add_zero'] at hw114_0)
           cases e114
           have qi114 : (0 < ((rd_T156 l0_0 a1).f2).length) = True := eq_true (by omega)
           (try rw [show ((0 : Int)).toNat = 0 from rfl] at hx114_0)
           (try rw [Addr.add_zero'] at hx114_0)
           replace hx114_0 := mv_ HB.o hx114_0; replace p114 := eq_true p114; replace q114 := eq_true q114
           refine start_ (n := 17) (S := fun w' => w'.cell? ⟨gb103, 0, none⟩ = some (.int .i64 ((rd_T156 l0_0 a1).f0)) ∧ w'.cell? ⟨gb103, 1, none⟩ = some (.slice A102_1 ((rd_T156 l0_0 a1).f1).length c102_1) ∧ w'.cell? ⟨gb103, 2, none⟩ = some (.slice (some ad114) ((rd_T156 l0_0 a1).f2).length c102_2) ∧ w'.cell? ⟨gb103, 3, none⟩ = some (.int .i64 ((rd_T156 l0_0 a1).f3)) ∧ w'.cell? ⟨gb103, 4, none⟩ = some (.int .i64 ((rd_T156 l0_0 a1).f4)) ∧ w'.cell? ⟨gb101, 0, none⟩ = some (.slice (some ad102) l0_0.length c0_0) ∧ w'.cell? ad114 = some (.int .i64 (rd ((rd_T156 l0_0 a1).f2) 0))) (ds := []) (bb 17 0) (by kernel_rfl) rfl rfl ⟨(blk_cell BK103.o 0).trans rfl, (blk_cell BK103.o 1).trans rfl, (blk_cell BK103.o 2).trans rfl, (blk_cell BK103.o 3).trans rfl, (blk_cell BK103.o 4).trans rfl, (blk_cell BK101.o 0).trans rfl, (mv_ HB.o hw114_0)⟩ (fun hHeld => ?_); refine with_tabW impl_Rx_nullable.tab13 impl_Rx_nullable.bits13 (fun HT_ HW_ => ?_)
           generalize wc.drew = w46 at BK101 BK103 HB hx114_0 hHeld ⊢
           refine pv_ 0 51 1 HT_.o ?_; refine tv_ 1 52 3 HT_.o HW_.o hHeld ?_; refine pv_ 2 53 7 HT_.o ?_; refine pv_ 3 54 15 HT_.o ?_; refine pw_ 4 (some 55) (bb 17 31) HT_.o ?_; refine pw_ 5 (some 56) (bb 17 63) HT_.o ?_; refine pw_ 6 (some 57) (bb 17 127) HT_.o ?_; refine pv_ 7 58 255 HT_.o ?_; refine pv_ 8 59 511 HT_.o ?_; refine pv_ 10 61 1535 HT_.o ?_; refine tv_ 9 60 2047 HT_.o HW_.o hHeld ?_; refine tv_ 11 62 4095 HT_.o HW_.o hHeld ?_; refine pv_ 12 63 8191 HT_.o ?_; refine tv_ 13 64 16383 HT_.o HW_.o hHeld ?_
           refine one_ (i := 14) (N := some 65) (bb 17 32767) rfl rfl (one_of HT_.o (by kernel_rfl)) (by decide) (fun K hK => ?_)
           refine gs_ Try.func68 #[.agg #[.slice (some ad102) l0_0.length c0_0], .int .i64 (rd ((rd_T156 l0_0 a1).f2) 0)] ?_
           with_reducible refine (ih kj4 (by have := HJ4.o; omega) _ _ l0_0 (rd ((rd_T156 l0_0 a1).f2) 0) t115 _ ?side1 ?side2 A45.o).mono ?_
           (case side1 => exact Kd.C_below HR0_0.o (be_ HB.o))
           (case side2 => exact HC0_0.o)
           rintro e w47 ⟨rfl, hb⟩
           refine ⟨_, rfl, ?_⟩; replace BK101 := lb_ BK101 hb; replace BK103 := lb_ BK103 hb; replace HB := sb2_ HB GE101 GE103 hb
           (try clear hb)
           (try clear hb2)
           (try clear hk)
           (try clear hi)
           refine hK.out _ _ ⟨(blk_cell BK103.o 0).trans rfl, (blk_cell BK103.o 1).trans rfl, (blk_cell BK103.o 2).trans rfl, (blk_cell BK103.o 3).trans rfl, (blk_cell BK103.o 4).trans rfl, (blk_cell BK101.o 0).trans rfl, (mv_ HB.o hw114_0)⟩ (fun hHeld => ?_)
           clear hK K; refine no_ (some 65) ?_; refine pv_ 15 66 65535 HT_.o ?_; refine pv_ 16 4 131071 HT_.o ?_
           refine done_ (done_of HT_.o (by kernel_rfl)) ?_
           try go_wp2
           go_ret
           exact ⟨rt_, be2_ HB.o GE101.o GE103.o⟩
          ·rw [if_neg c44] at H
           exact absurd H (by simp)
  ·rw [if_neg c4] at H
   exact absurd H (by simp)
 ·rw [if_neg c3] at H
  exact absurd H (by simp)
/-! ### impl_Nullable: function 18 -/
def impl_Nullable.f (k : Nat) (l0_0 : List (S156)) : Option (Bool) := (impl_RxOk.f k l0_0).bind fun t102 => (if t102 = true then ((impl_Rx_last.f l0_0).bind fun t103 => ((impl_Rx_nullable.f k l0_0 t103).bind fun t104 => (some t104))) else (some false))
def impl_Nullable.T1 : Bool × List (List Nat × List Nat) := (true, [([], []), ([0], [0]), ([1, 1], [1]), ([2], [2]), ([2], [2]), ([4, 2, 2], [2, 4]), ([3, 5, 5, 2], [2, 3, 5]), ([2, 6], [2, 6]), ([7, 6, 0, 1, 2, 3, 4, 5, 6, 7], [7])])
def impl_Nullable.B1 : List Nat := [0, 1, 3, 7, 7, 23, 63, 127, 255]
theorem impl_Nullable.tab1 : rtab .any (opsOf Try.f18 1) = impl_Nullable.T1 := by kernel_rfl
theorem impl_Nullable.bits1 : waitsOk impl_Nullable.T1.2 impl_Nullable.B1 = true := by kernel_rfl
theorem impl_Nullable.calls (k : Nat) (A0_0 : Option Addr) (c0_0 : Nat) (l0_0 : List (S156)) (r : Bool) (w : World) (hr0_0 : Kd.C k156 w A0_0 l0_0.length l0_0) (hc0_0 : l0_0.length ≤ c0_0) (h : impl_Nullable.f k l0_0 = some r) :
  Calls Try.prog 18 #[.agg #[.slice A0_0 l0_0.length c0_0]] w fun e w' => e = .returned (.bool r) ∧ Below w.heap.size w w' := by
 have hu29 := Try.underlying29; have HR0_0 := q_ hr0_0; have HC0_0 := q_ hc0_0; clear hr0_0 hc0_0; have HB := q_ (Below.refl w.heap.size w)
 have H : ((impl_RxOk.f k l0_0).bind fun t102 => (if t102 = true then ((impl_Rx_last.f l0_0).bind fun t103 => ((impl_Rx_nullable.f k l0_0 t103).bind fun t104 => (some t104))) else (some false))) = some r := h
 clear h; obtain ⟨t102, A2, H⟩ := ob_ H
 by_cases c3 : t102 = true
 ·subst c3; rw [if_pos rfl] at H; obtain ⟨t103, A4, H⟩ := ob_ H; obtain ⟨t104, A5, H⟩ := ob_ H; obtain rfl := Option.some.inj H
  go_enter Try.func18, Try.ntmps18
  try go_wp2_with (((with_reducible refine gate_dst (N := 1) rfl ?_); refine bx_ 1 #[.slice A0_0 l0_0.length c0_0] 29 ?_; intro gb101 hg w6 hbox hb; have BK101 := q_ (hbox); have GE101 := ge_ hg HB; replace HB := sb_ HB hb; clear hb hbox hg))
  replace BK101 := q_ (blk_drew BK101.o); replace HB := q_ (below_drew1 HB.o)
  refine start_ (n := 9) (S := fun w' => w'.cell? ⟨gb101, 0, none⟩ = some (.slice A0_0 l0_0.length c0_0)) (ds := []) (bb 9 0) (by kernel_rfl) rfl rfl ((blk_cell BK101.o 0).trans rfl) (fun hHeld => ?_); refine with_tabW impl_Nullable.tab1 impl_Nullable.bits1 (fun HT_ HW_ => ?_)
  generalize w6.drew = w7 at BK101 HB hHeld ⊢
  refine tv_ 0 3 1 HT_.o HW_.o hHeld ?_
  refine one_ (i := 1) (N := some 4) (bb 9 3) rfl rfl (one_of HT_.o (by kernel_rfl)) (by decide) (fun K hK => ?_)
  refine gs_ Try.func62 #[.agg #[.slice A0_0 l0_0.length c0_0]] ?_
  with_reducible refine (impl_RxOk.calls k _ _ l0_0 true _ ?side1 ?side2 A2.o).mono ?_
  (case side1 => exact Kd.C_below HR0_0.o (be_ HB.o))
  (case side2 => exact HC0_0.o)
  rintro e w8 ⟨rfl, hb⟩
  refine ⟨_, rfl, ?_⟩; replace BK101 := lb_ BK101 hb; replace HB := sb1_ HB GE101 hb
  (try clear hb)
  (try clear hb2)
  (try clear hk)
  (try clear hi)
  refine hK.out _ _ ((blk_cell BK101.o 0).trans rfl) (fun hHeld => ?_)
  clear hK K; refine no_ (some 4) ?_; refine pv_ 2 5 7 HT_.o ?_; refine tv_ 3 6 15 HT_.o HW_.o hHeld ?_; refine tv_ 4 7 31 HT_.o HW_.o hHeld ?_
  refine one_ (i := 5) (N := some 8) (bb 9 63) rfl rfl (one_of HT_.o (by kernel_rfl)) (by decide) (fun K hK => ?_)
  refine gs_ Try.func64 #[.agg #[.slice A0_0 l0_0.length c0_0]] ?_
  with_reducible refine (impl_Rx_last.calls _ _ l0_0 t103 _ ?side1 ?side2 A4.o).mono ?_
  (case side1 => exact Kd.C_below HR0_0.o (be_ HB.o))
  (case side2 => exact HC0_0.o)
  rintro e w9 ⟨rfl, hb⟩
  refine ⟨_, rfl, ?_⟩; replace BK101 := lb_ BK101 hb; replace HB := sb1_ HB GE101 hb
  (try clear hb)
  (try clear hb2)
  (try clear hk)
  (try clear hi)
  refine hK.out _ _ ((blk_cell BK101.o 0).trans rfl) (fun hHeld => ?_)
  clear hK K; refine no_ (some 8) ?_
  refine one_ (i := 6) (N := some 9) (bb 9 127) rfl rfl (one_of HT_.o (by kernel_rfl)) (by decide) (fun K hK => ?_)
  refine gs_ Try.func68 #[.agg #[.slice A0_0 l0_0.length c0_0], .int .i64 t103] ?_
  with_reducible refine (impl_Rx_nullable.calls k _ _ l0_0 t103 t104 _ ?side1 ?side2 A5.o).mono ?_
  (case side1 => exact Kd.C_below HR0_0.o (be_ HB.o))
  (case side2 => exact HC0_0.o)
  rintro e w10 ⟨rfl, hb⟩
  refine ⟨_, rfl, ?_⟩; replace BK101 := lb_ BK101 hb; replace HB := sb1_ HB GE101 hb
  (try clear hb)
  (try clear hb2)
  (try clear hk)
  (try clear hi)
  refine hK.out _ _ ((blk_cell BK101.o 0).trans rfl) (fun hHeld => ?_)
  clear hK K; refine no_ (some 9) ?_; refine pv_ 7 10 255 HT_.o ?_; refine pv_ 8 2 511 HT_.o ?_
  refine done_ (done_of HT_.o (by kernel_rfl)) ?_
  try go_wp2
  go_ret
  exact ⟨rt_, be1_ HB.o GE101.o⟩
 ·replace c3 := Bool.eq_false_iff.mpr c3; subst c3; rw [if_neg nft_] at H; obtain rfl := Option.some.inj H
  go_enter Try.func18, Try.ntmps18
  try go_wp2_with (((with_reducible refine gate_dst (N := 1) rfl ?_); refine bx_ 1 #[.slice A0_0 l0_0.length c0_0] 29 ?_; intro gb101 hg w11 hbox hb; have BK101 := q_ (hbox); have GE101 := ge_ hg HB; replace HB := sb_ HB hb; clear hb hbox hg))
  replace BK101 := q_ (blk_drew BK101.o); replace HB := q_ (below_drew1 HB.o)
  refine start_ (n := 9) (S := fun w' => w'.cell? ⟨gb101, 0, none⟩ = some (.slice A0_0 l0_0.length c0_0)) (ds := []) (bb 9 0) (by kernel_rfl) rfl rfl ((blk_cell BK101.o 0).trans rfl) (fun hHeld => ?_); refine with_tabW impl_Nullable.tab1 impl_Nullable.bits1 (fun HT_ HW_ => ?_)
  generalize w11.drew = w12 at BK101 HB hHeld ⊢
  refine tv_ 0 3 1 HT_.o HW_.o hHeld ?_
  refine one_ (i := 1) (N := some 4) (bb 9 3) rfl rfl (one_of HT_.o (by kernel_rfl)) (by decide) (fun K hK => ?_)
  refine gs_ Try.func62 #[.agg #[.slice A0_0 l0_0.length c0_0]] ?_
  with_reducible refine (impl_RxOk.calls k _ _ l0_0 false _ ?side1 ?side2 A2.o).mono ?_
  (case side1 => exact Kd.C_below HR0_0.o (be_ HB.o))
  (case side2 => exact HC0_0.o)
  rintro e w13 ⟨rfl, hb⟩
  refine ⟨_, rfl, ?_⟩; replace BK101 := lb_ BK101 hb; replace HB := sb1_ HB GE101 hb
  (try clear hb)
  (try clear hb2)
  (try clear hk)
  (try clear hi)
  refine hK.out _ _ ((blk_cell BK101.o 0).trans rfl) (fun hHeld => ?_)
  clear hK K; refine no_ (some 4) ?_; refine pv_ 2 5 7 HT_.o ?_; refine pw_ 3 (some 6) (bb 9 15) HT_.o ?_; refine pw_ 4 (some 7) (bb 9 31) HT_.o ?_; refine pw_ 5 (some 8) (bb 9 63) HT_.o ?_; refine pw_ 6 (some 9) (bb 9 127) HT_.o ?_; refine pv_ 7 10 255 HT_.o ?_; refine pv_ 8 2 511 HT_.o ?_
  refine done_ (done_of HT_.o (by kernel_rfl)) ?_
  try go_wp2
  go_ret
  exact ⟨rt_, be1_ HB.o GE101.o⟩
end Go.Proofs.Ytijmhelacmjggaa.P
namespace Go.Proofs.Ytijmhelacmjggaa.P
open Go.RowKit Go.Proofs.YtijmhelacmjggaaW.PrintWords Go.Proofs.YtijmhelacmjggaaW.PrintLast Go.Proofs.YtijmhelacmjggaaW.PrintMore Go.Proofs.YtijmhelacmjggaaEv
set_option linter.unusedVariables false
set_option linter.unusedSimpArgs false
theorem impl_nullable_ev (l : List S156) (hok : ∀ j, j < l.length → nodeAt l j = true) : ∀ n k : Nat, k < n → k < l.length → Ev (fun q => impl_Rx_nullable.f q l (k : Int)) (nullE l k) := by
  intro n
  induction n with
  | zero => intro k hk; omega
  | succ n ih =>
    intro k hk hkl
    have kid : ∀ i : Nat, i < (rd_T156 l (k : Int)).f2.length → Ev (fun q => impl_Rx_nullable.f q l (rd (rd_T156 l (k : Int)).f2 (i : Int))) (nullK l k (rd (rd_T156 l (k : Int)).f2 (i : Int)).toNat) := by
      intro i hi
      obtain ⟨h1, h2⟩ := node_kid (hok k hkl) i hi
      have h3 := ih _ (by omega) (Nat.lt_trans h2 hkl)
      rw [← h1] at h3
      rw [nullK_stable hok l.length _ (by omega) (by omega) k h2]
      exact h3
    have k0 := kid 0
    have k1 := kid 1
    simp only [Int.ofNat_zero, Int.natCast_one, Int.cast_ofNat_Int] at k0 k1
    have hE : nullE l k = nullK l (k + 1) k := rfl
    rw [hE]
    simp only [nullK]
    generalize nullK l k (rd (rd_T156 l (k : Int)).f2 0).toNat = b0 at *
    generalize nullK l k (rd (rd_T156 l (k : Int)).f2 1).toNat = b1 at *
    have yes : ∀ x12 a b c d e, Ev (fun q => impl_Rx_nullable.j0 q x12 true l a b c d e) true := by
      intro x12 a b c d e
      rw [ev_succ]
      simp only [impl_Rx_nullable.j0, if_true]
      exact ev_some.2 rfl
    rcases node_ops (hok k hkl) with (h | h) | ⟨h | h, hl⟩ | ⟨h | h | h | h, hl⟩
    · refine ev_congr (r := true) ?_ (by simp [h])
      rw [ev_succ]
      simp only [impl_Rx_nullable.f, ev_ite]
      rw [if_pos (by omega), if_pos (by omega)]
      rw [if_pos h, h, show ((1 : Int) == 1) = true from rfl]
      exact yes _ _ _ _ _ _
    · refine ev_congr (r := false) ?_ (by simp [h])
      rw [ev_succ]
      simp only [impl_Rx_nullable.f, ev_ite]
      rw [if_pos (by omega), if_pos (by omega)]
      rw [if_neg (by omega), if_neg (by omega), h, show ((2 : Int) == 7) = false from rfl, ev_succ]
      simp only [impl_Rx_nullable.j0, Bool.false_eq_true, if_false, ev_ite]
      first | rw [if_pos trivial] | rw [if_pos rfl]
      exact ev_some.2 rfl
    · refine ev_congr (r := (b0 && b1)) ?_ (by simp [h])
      rw [ev_succ]
      simp only [impl_Rx_nullable.f, ev_ite]
      rw [if_pos (by omega), if_pos (by omega)]
      rw [if_neg (by omega), if_neg (by omega), h, show ((3 : Int) == 7) = false from rfl, ev_succ]
      simp only [impl_Rx_nullable.j0, Bool.false_eq_true, if_false, ev_ite]
      rw [if_neg (by omega)]
      first | rw [if_pos trivial] | rw [if_pos rfl]
      rw [if_pos (by omega), ev_bind (k0 (by omega)), ev_ite]
      cases b0
      · rw [if_neg (by simp)]
        exact ev_some.2 rfl
      · rw [if_pos rfl, ev_ite, if_pos (by omega), ev_bind (k1 (by omega))]
        exact ev_some.2 rfl
    · refine ev_congr (r := (b0 || b1)) ?_ (by simp [h])
      rw [ev_succ]
      simp only [impl_Rx_nullable.f, ev_ite]
      rw [if_pos (by omega), if_pos (by omega)]
      rw [if_neg (by omega), if_neg (by omega), h, show ((4 : Int) == 7) = false from rfl, ev_succ]
      simp only [impl_Rx_nullable.j0, Bool.false_eq_true, if_false, ev_ite]
      rw [if_neg (by omega), if_neg (by omega)]
      first | rw [if_pos trivial] | rw [if_pos rfl]
      rw [if_pos (by omega), ev_bind (k0 (by omega)), ev_ite]
      cases b0
      · rw [if_neg (by simp), ev_ite, if_pos (by omega), ev_bind (k1 (by omega))]
        exact ev_some.2 rfl
      · rw [if_pos rfl]
        exact ev_some.2 rfl
    · refine ev_congr (r := true) ?_ (by simp [h])
      rw [ev_succ]
      simp only [impl_Rx_nullable.f, ev_ite]
      rw [if_pos (by omega), if_pos (by omega)]
      rw [if_neg (by omega), if_pos h, h, show ((5 : Int) == 5) = true from rfl]
      exact yes _ _ _ _ _ _
    · refine ev_congr (r := b0) ?_ (by simp [h])
      rw [ev_succ]
      simp only [impl_Rx_nullable.f, ev_ite]
      rw [if_pos (by omega), if_pos (by omega)]
      rw [if_neg (by omega), if_neg (by omega), h, show ((6 : Int) == 7) = false from rfl, ev_succ]
      simp only [impl_Rx_nullable.j0, Bool.false_eq_true, if_false, ev_ite]
      rw [if_neg (by omega), if_neg (by omega), if_neg (by omega), if_neg (by omega), if_pos (by omega), ev_bind (k0 (by omega))]
      exact ev_some.2 rfl
    · refine ev_congr (r := true) ?_ (by simp [h])
      rw [ev_succ]
      simp only [impl_Rx_nullable.f, ev_ite]
      rw [if_pos (by omega), if_pos (by omega)]
      rw [if_neg (by omega), if_neg (by omega), h, show ((7 : Int) == 7) = true from rfl]
      exact yes _ _ _ _ _ _
    · refine ev_congr (r := (decide ((rd_T156 l (k : Int)).f3 = 0) || b0)) ?_ (by simp [h])
      rw [ev_succ]
      simp only [impl_Rx_nullable.f, ev_ite]
      rw [if_pos (by omega), if_pos (by omega)]
      rw [if_neg (by omega), if_neg (by omega), h, show ((8 : Int) == 7) = false from rfl, ev_succ]
      simp only [impl_Rx_nullable.j0, Bool.false_eq_true, if_false, ev_ite]
      rw [if_neg (by omega), if_neg (by omega), if_neg (by omega)]
      first | rw [if_pos trivial] | rw [if_pos rfl]
      by_cases h3 : (rd_T156 l (k : Int)).f3 = 0
      · rw [if_pos h3]
        exact ev_some.2 (show true = _ by simp [h3])
      · rw [if_neg h3, if_pos (by omega), ev_bind (k0 (by omega))]
        exact ev_some.2 (show b0 = _ by simp [h3])
end Go.Proofs.Ytijmhelacmjggaa.P
namespace Go.Proofs.Ytijmhelacmjggaa.P
open Go.RowKit Go.Proofs.YtijmhelacmjggaaW.PrintWords Go.Proofs.YtijmhelacmjggaaW.PrintLast Go.Proofs.YtijmhelacmjggaaW.PrintMore
attribute [local go_sem] max2_int min2_int max_two min_two max_three min_three max_four min_four
set_option linter.unusedVariables false
set_option linter.unusedSimpArgs false
/-! ### impl_Joined: function 70 -/
def impl_Joined.f (l0 : List (S103)) (l1 : List (S103)) : Option (List (S103)) := some (joinI l0 l1)
theorem impl_Joined.calls (A0 : Option Addr) (c0 : Nat) (l0 : List (S103)) (A1 : Option Addr) (c1 : Nat) (l1 : List (S103)) (r : List (S103)) (w : World) (hr0 : Kd.C k103 w A0 l0.length l0) (hc0 : l0.length ≤ c0) (hr1 : Kd.C k103 w A1 l1.length l1) (hc1 : l1.length ≤ c1) (h : impl_Joined.f l0 l1 = some r) :
    Calls Try.prog 70 #[.slice A0 l0.length c0, .slice A1 l1.length c1] w fun e w' => ∃ v0_ : Value, e = .returned (v0_) ∧ Kd.R k103 103 w' w.heap.size (fun _ => True) v0_ r ∧ Below w.heap.size w w' := Joined_hand A0 A1 c0 c1 l0 l1 w hr0 hc0 hr1 hc1 r (Option.some.inj h)
/-! ### impl_Rx_first: function 71 -/
def impl_Rx_first.f : Nat → List (S156) → Int → Option ((List (S103)))
 | 0, _, _ => none
 | k + 1, l0_0, a1 => if 0 ≤ a1 then (if a1 < (l0_0.length : Int) then (if ((rd_T156 l0_0 a1).f0) = 1 then (some ([] : List (S103))) else (if ((rd_T156 l0_0 a1).f0) = 2 then (some ((rd_T156 l0_0 a1).f1)) else (if ((rd_T156 l0_0 a1).f0) = 3 then (if 0 < (((rd_T156 l0_0 a1).f2).length : Int) then ((impl_Rx_nullable.f k l0_0 (rd ((rd_T156 l0_0 a1).f2) 0)).bind fun t105 => (if t105 = true then ((impl_Rx_first.f k l0_0 (rd ((rd_T156 l0_0 a1).f2) 0)).bind fun t111 => (if 1 < (((rd_T156 l0_0 a1).f2).length : Int) then ((impl_Rx_first.f k l0_0 (rd ((rd_T156 l0_0 a1).f2) 1)).bind fun t115 => ((impl_Joined.f t111 t115).bind fun t118 => (some t118))) else (none))) else ((impl_Rx_first.f k l0_0 (rd ((rd_T156 l0_0 a1).f2) 0)).bind fun t107 => (some t107)))) else (none)) else (if ((rd_T156 l0_0 a1).f0) = 4 then (if 0 < (((rd_T156 l0_0 a1).f2).length : Int) then ((impl_Rx_first.f k l0_0 (rd ((rd_T156 l0_0 a1).f2) 0)).bind fun t122 => (if 1 < (((rd_T156 l0_0 a1).f2).length : Int) then ((impl_Rx_first.f k l0_0 (rd ((rd_T156 l0_0 a1).f2) 1)).bind fun t126 => ((impl_Joined.f t122 t126).bind fun t129 => (some t129))) else (none))) else (none)) else (if 0 < (((rd_T156 l0_0 a1).f2).length : Int) then ((impl_Rx_first.f k l0_0 (rd ((rd_T156 l0_0 a1).f2) 0)).bind fun t133 => (some t133)) else (none)))))) else (none)) else (none)
def impl_Rx_first.T10 : Bool × List (List Nat × List Nat) := (true, [([], []), ([], []), ([1], [1]), ([2], [2]), ([3], [3]), ([0, 4], [0, 4]), ([], []), ([], []), ([7], [7]), ([8], [8]), ([9], [9]), ([6, 10, 5], [6, 10]), ([5, 11, 11], [5, 11]), ([12, 12, 0, 1, 2, 3, 4, 5, 6, 7, 8, 9, 10, 11, 12], [12])])
def impl_Rx_first.B10 : List Nat := [0, 0, 2, 6, 14, 31, 0, 0, 128, 384, 896, 2047, 4095, 8191]
theorem impl_Rx_first.tab10 : rtab .any (opsOf Try.f71 10) = impl_Rx_first.T10 := by kernel_rfl
theorem impl_Rx_first.bits10 : waitsOk impl_Rx_first.T10.2 impl_Rx_first.B10 = true := by kernel_rfl
def impl_Rx_first.T12 : Bool × List (List Nat × List Nat) := (true, [([], []), ([], []), ([1], [1]), ([2], [2]), ([3], [3]), ([0, 4], [0, 4]), ([], []), ([], []), ([7], [7]), ([8], [8]), ([9], [9]), ([6, 10, 5], [6, 10]), ([5, 11, 11], [5, 11]), ([12, 12, 0, 1, 2, 3, 4, 5, 6, 7, 8, 9, 10, 11, 12], [12])])
def impl_Rx_first.B12 : List Nat := [0, 0, 2, 6, 14, 31, 0, 0, 128, 384, 896, 2047, 4095, 8191]
theorem impl_Rx_first.tab12 : rtab .any (opsOf Try.f71 12) = impl_Rx_first.T12 := by kernel_rfl
theorem impl_Rx_first.bits12 : waitsOk impl_Rx_first.T12.2 impl_Rx_first.B12 = true := by kernel_rfl
theorem impl_Rx_first.calls (k : Nat) : ∀ (P0_0_ : Nat → Prop) (A0_0 : Option Addr) (c0_0 : Nat) (l0_0 : List (S156)) (a1 : Int) (r : List (S103)) (w : World) (hs0_0 : Kd.V k156 156 w w.heap.size (fun k_ => P0_0_ k_) (.slice A0_0 l0_0.length c0_0) l0_0) (h : impl_Rx_first.f k l0_0 a1 = some r),
  Calls Try.prog 71 #[.agg #[.slice A0_0 l0_0.length c0_0], .int .i64 a1] w fun e w' => ∃ v0_ : Value, e = .returned (v0_) ∧ Kd.V k103 103 w' w.heap.size (fun k_ => (P0_0_ k_ ∨ w.heap.size ≤ k_)) v0_ r ∧ Below w.heap.size w w' := by
 induction k using Nat.strongRecOn with
 | _ k ih =>
 intro P0_0_ A0_0 c0_0 l0_0 a1 r w hs0_0 h
 cases k with
 | zero => exact absurd h (by simp [impl_Rx_first.f])
 | succ k =>
 simp only [impl_Rx_first.f] at h
 have hu29 := Try.underlying29; have hu156 := Try.underlying156
 have HO0_0 := q_ (show Kd.V k156 156 w w.heap.size (fun k_ => (P0_0_ k_ ∨ w.heap.size ≤ k_)) (.slice A0_0 l0_0.length c0_0) l0_0 from Kd.V_mono hs0_0 (fun k_ hk => .inl hk))
 have HB := q_ (Below.refl w.heap.size w)
 have H : (if 0 ≤ a1 then (if a1 < (l0_0.length : Int) then (if ((rd_T156 l0_0 a1).f0) = 1 then (some ([] : List (S103))) else (if ((rd_T156 l0_0 a1).f0) = 2 then (some ((rd_T156 l0_0 a1).f1)) else (if ((rd_T156 l0_0 a1).f0) = 3 then (if 0 < (((rd_T156 l0_0 a1).f2).length : Int) then ((impl_Rx_nullable.f k l0_0 (rd ((rd_T156 l0_0 a1).f2) 0)).bind fun t105 => (if t105 = true then ((impl_Rx_first.f k l0_0 (rd ((rd_T156 l0_0 a1).f2) 0)).bind fun t111 => (if 1 < (((rd_T156 l0_0 a1).f2).length : Int) then ((impl_Rx_first.f k l0_0 (rd ((rd_T156 l0_0 a1).f2) 1)).bind fun t115 => ((impl_Joined.f t111 t115).bind fun t118 => (some t118))) else (none))) else ((impl_Rx_first.f k l0_0 (rd ((rd_T156 l0_0 a1).f2) 0)).bind fun t107 => (some t107)))) else (none)) else (if ((rd_T156 l0_0 a1).f0) = 4 then (if 0 < (((rd_T156 l0_0 a1).f2).length : Int) then ((impl_Rx_first.f k l0_0 (rd ((rd_T156 l0_0 a1).f2) 0)).bind fun t122 => (if 1 < (((rd_T156 l0_0 a1).f2).length : Int) then ((impl_Rx_first.f k l0_0 (rd ((rd_T156 l0_0 a1).f2) 1)).bind fun t126 => ((impl_Joined.f t122 t126).bind fun t129 => (some t129))) else (none))) else (none)) else (if 0 < (((rd_T156 l0_0 a1).f2).length : Int) then ((impl_Rx_first.f k l0_0 (rd ((rd_T156 l0_0 a1).f2) 0)).bind fun t133 => (some t133)) else (none)))))) else (none)) else (none)) = some r := h
 clear h
 by_cases c3 : 0 ≤ a1
 ·rw [if_pos c3] at H; have c3b0 := dt_ c3; clear c3
  by_cases c4 : a1 < (l0_0.length : Int)
  ·rw [if_pos c4] at H; have c4b0 := dt_ c4; clear c4
   by_cases c5 : ((rd_T156 l0_0 a1).f0) = 1
   ·rw [if_pos c5] at H
    have c5b0 : (((rd_T156 l0_0 a1).f0) == 1) = true := beq_iff_eq.mpr c5
    have c5b1 : (((rd_T156 l0_0 a1).f0) != 1) = false := bne_eq_false_iff_eq.mpr c5
    clear c5; obtain rfl := Option.some.inj H
    go_enter Try.func71, Try.ntmps71
    go_wp2_with (first | ((with_reducible refine gate_dst (N := 2) rfl ?_); refine bx_ 2 #[.slice A0_0 l0_0.length c0_0] 29 ?_; intro gb101 hg w6 hbox hb; have BK101 := q_ (hbox); have GE101 := ge_ hg HB; replace HO0_0 := q_ (Kd.V_below (Kd.V_elderB (by (with_reducible repeat (first | apply Kd.V_alloc | apply Kd.V_drewN | apply Kd.V_drew)); exact HO0_0.o) gb101 (Nat.le_of_eq hg.symm)) hb); replace HB := sb_ HB hb; clear hb hbox hg; obtain ⟨hcz7_0, hfz7_0⟩ := d1_ BK101; have p102 : 0 ≤ (a1 : Int) := of_decide_eq_true as_; have q102 : a1 < (l0_0.length : Int) := of_decide_eq_true as_; obtain ⟨ad102, A102_1, c102_1, A102_2, c102_2, e102, hx102_0, hx102_1, hx102_2, hx102_3, hx102_4, hl102_1, hi102_1, hl102_2, hi102_2⟩ := at_T156 (Kd.V_reads' HO0_0.o).2.2 a1 p102 q102; cases e102; obtain ⟨ce102, hce102, hMe102, hcc102⟩ := Kd.V_get HO0_0.o z156 a1 p102 (by first | exact q102 | exact of_decide_eq_true as_ | (have e_ := (Kd.V_reads' HO0_0.o).1; omega)); obtain ⟨ua102_1, uc102_1, ua102_2, uc102_2, rfl, ul102_1, ge102_1, ul102_2, ge102_2⟩ := k156_openF hMe102; have hv102_1 := hcc102 1 _ rfl; rw [add_field _ _ 1 (by omega)] at hv102_1; replace hv102_1 := Option.some.inj (hv102_1.symm.trans hx102_1); injection hv102_1 with hva_ hvn_ hvc_; rw [hva_] at ge102_1; rw [hvc_] at ul102_1; have HL102_1 := q_ (show Kd.V k103 103 _ w.heap.size _ _ ((rd_T156 l0_0 a1).f1) from Kd.V_mk ul102_1 ge102_1); clear hva_ hvn_ hvc_ ge102_1 ul102_1; have hv102_2 := hcc102 2 _ rfl; rw [add_field _ _ 2 (by omega)] at hv102_2; replace hv102_2 := Option.some.inj (hv102_2.symm.trans hx102_2); injection hv102_2 with hva_ hvn_ hvc_; rw [hva_] at ge102_2; rw [hvc_] at ul102_2; have HL102_2 := q_ (show Kd.V (Kd.int .i64) 2 _ w.heap.size _ _ ((rd_T156 l0_0 a1).f2) from Kd.V_mk ul102_2 ge102_2); clear hva_ hvn_ hvc_ ge102_2 ul102_2; clear hcc102 hce102; have HR102_1 := q_ hi102_1; have HC102_1 := q_ hl102_1; clear hi102_1 hl102_1; have HR102_2 := q_ hi102_2; have HC102_2 := q_ hl102_2; clear hi102_2 hl102_2; replace p102 := eq_true p102; replace q102 := eq_true q102) | ((with_reducible refine gate_dst (N := 5) rfl ?_); refine bx_ 5 #[.int .i64 0, .slice none 0 0, .slice none 0 0, .int .i64 0, .int .i64 0] 156 ?_; intro gb103 hg w8 hbox hb; have BK103 := q_ (hbox); have GE103 := ge1_ hg HB GE101; have NB101_103 := nl_ hg BK101; have NB103_101 := ng_ hg BK101; replace HO0_0 := q_ (Kd.V_below (Kd.V_elderB (by (with_reducible repeat (first | apply Kd.V_alloc | apply Kd.V_drewN | apply Kd.V_drew)); exact HO0_0.o) gb103 (Nat.le_of_eq hg.symm)) hb); replace HL102_1 := q_ (Kd.V_below (Kd.V_elderB (by (with_reducible repeat (first | apply Kd.V_alloc | apply Kd.V_drewN | apply Kd.V_drew)); exact HL102_1.o) gb103 (Nat.le_of_eq hg.symm)) hb); replace HL102_2 := q_ (Kd.V_below (Kd.V_elderB (by (with_reducible repeat (first | apply Kd.V_alloc | apply Kd.V_drewN | apply Kd.V_drew)); exact HL102_2.o) gb103 (Nat.le_of_eq hg.symm)) hb); replace BK101 := lb_ BK101 hb; replace HR102_1 := q_ (Kd.C_below (by repeat (first | (with_reducible exact HR102_1.o) | (with_reducible refine Kd.C_alloc ?_ _) | (with_reducible refine Kd.C_drewN ?_ _) | (with_reducible refine Kd.C_drew ?_) | exact HR102_1.o)) hb); replace HR102_2 := q_ (Kd.C_below (by repeat (first | (with_reducible exact HR102_2.o) | (with_reducible refine Kd.C_alloc ?_ _) | (with_reducible refine Kd.C_drewN ?_ _) | (with_reducible refine Kd.C_drew ?_) | exact HR102_2.o)) hb); replace HB := sb1_ HB GE101 hb; clear hb hbox hg; have hnb9 := NB103_101.o; have hnc9 := NB101_103.o; obtain ⟨hcz10_0, hcz10_1, hcz10_2, hcz10_3, hcz10_4, hfz10_0, hfz10_1, hfz10_2, hfz10_3, hfz10_4⟩ := d5_ BK103))
    go_ret
    exact ⟨.slice none 0 0, rt_, Kd.V_nil _ _ _ _ _, be2_ HB.o GE101.o GE103.o⟩
   ·rw [if_neg c5] at H
    have c5b0 : (((rd_T156 l0_0 a1).f0) == 1) = false := beq_eq_false_iff_ne.mpr c5
    have c5b1 : (((rd_T156 l0_0 a1).f0) != 1) = true := bne_iff_ne.mpr c5
    by_cases c11 : ((rd_T156 l0_0 a1).f0) = 2
    ·rw [if_pos c11] at H
     have c11b0 : (((rd_T156 l0_0 a1).f0) == 2) = true := beq_iff_eq.mpr c11
     have c11b1 : (((rd_T156 l0_0 a1).f0) != 2) = false := bne_eq_false_iff_eq.mpr c11
     clear c11; obtain rfl := Option.some.inj H
     go_enter Try.func71, Try.ntmps71
     go_wp2_with (first | ((with_reducible refine gate_dst (N := 2) rfl ?_); refine bx_ 2 #[.slice A0_0 l0_0.length c0_0] 29 ?_; intro gb101 hg w12 hbox hb; have BK101 := q_ (hbox); have GE101 := ge_ hg HB; replace HO0_0 := q_ (Kd.V_below (Kd.V_elderB (by (with_reducible repeat (first | apply Kd.V_alloc | apply Kd.V_drewN | apply Kd.V_drew)); exact HO0_0.o) gb101 (Nat.le_of_eq hg.symm)) hb); replace HB := sb_ HB hb; clear hb hbox hg; obtain ⟨hcz13_0, hfz13_0⟩ := d1_ BK101; have p102 : 0 ≤ (a1 : Int) := of_decide_eq_true as_; have q102 : a1 < (l0_0.length : Int) := of_decide_eq_true as_; obtain ⟨ad102, A102_1, c102_1, A102_2, c102_2, e102, hx102_0, hx102_1, hx102_2, hx102_3, hx102_4, hl102_1, hi102_1, hl102_2, hi102_2⟩ := at_T156 (Kd.V_reads' HO0_0.o).2.2 a1 p102 q102; cases e102; obtain ⟨ce102, hce102, hMe102, hcc102⟩ := Kd.V_get HO0_0.o z156 a1 p102 (by first | exact q102 | exact of_decide_eq_true as_ | (have e_ := (Kd.V_reads' HO0_0.o).1; omega)); obtain ⟨ua102_1, uc102_1, ua102_2, uc102_2, rfl, ul102_1, ge102_1, ul102_2, ge102_2⟩ := k156_openF hMe102; have hv102_1 := hcc102 1 _ rfl; rw [add_field _ _ 1 (by omega)] at hv102_1; replace hv102_1 := Option.some.inj (hv102_1.symm.trans hx102_1); injection hv102_1 with hva_ hvn_ hvc_; rw [hva_] at ge102_1; rw [hvc_] at ul102_1; have HL102_1 := q_ (show Kd.V k103 103 _ w.heap.size _ _ ((rd_T156 l0_0 a1).f1) from Kd.V_mk ul102_1 ge102_1); clear hva_ hvn_ hvc_ ge102_1 ul102_1; have hv102_2 := hcc102 2 _ rfl; rw [add_field _ _ 2 (by omega)] at hv102_2; replace hv102_2 := Option.some.inj (hv102_2.symm.trans hx102_2); injection hv102_2 with hva_ hvn_ hvc_; rw [hva_] at ge102_2; rw [hvc_] at ul102_2; have HL102_2 := q_ (show Kd.V (Kd.int .i64) 2 _ w.heap.size _ _ ((rd_T156 l0_0 a1).f2) from Kd.V_mk ul102_2 ge102_2); clear hva_ hvn_ hvc_ ge102_2 ul102_2; clear hcc102 hce102; have HR102_1 := q_ hi102_1; have HC102_1 := q_ hl102_1; clear hi102_1 hl102_1; have HR102_2 := q_ hi102_2; have HC102_2 := q_ hl102_2; clear hi102_2 hl102_2; replace p102 := eq_true p102; replace q102 := eq_true q102) | ((with_reducible refine gate_dst (N := 5) rfl ?_); refine bx_ 5 #[.int .i64 0, .slice none 0 0, .slice none 0 0, .int .i64 0, .int .i64 0] 156 ?_; intro gb103 hg w14 hbox hb; have BK103 := q_ (hbox); have GE103 := ge1_ hg HB GE101; have NB101_103 := nl_ hg BK101; have NB103_101 := ng_ hg BK101; replace HO0_0 := q_ (Kd.V_below (Kd.V_elderB (by (with_reducible repeat (first | apply Kd.V_alloc | apply Kd.V_drewN | apply Kd.V_drew)); exact HO0_0.o) gb103 (Nat.le_of_eq hg.symm)) hb); replace HL102_1 := q_ (Kd.V_below (Kd.V_elderB (by (with_reducible repeat (first | apply Kd.V_alloc | apply Kd.V_drewN | apply Kd.V_drew)); exact HL102_1.o) gb103 (Nat.le_of_eq hg.symm)) hb); replace HL102_2 := q_ (Kd.V_below (Kd.V_elderB (by (with_reducible repeat (first | apply Kd.V_alloc | apply Kd.V_drewN | apply Kd.V_drew)); exact HL102_2.o) gb103 (Nat.le_of_eq hg.symm)) hb); replace BK101 := lb_ BK101 hb; replace HR102_1 := q_ (Kd.C_below (by repeat (first | (with_reducible exact HR102_1.o) | (with_reducible refine Kd.C_alloc ?_ _) | (with_reducible refine Kd.C_drewN ?_ _) | (with_reducible refine Kd.C_drew ?_) | exact HR102_1.o)) hb); replace HR102_2 := q_ (Kd.C_below (by repeat (first | (with_reducible exact HR102_2.o) | (with_reducible refine Kd.C_alloc ?_ _) | (with_reducible refine Kd.C_drewN ?_ _) | (with_reducible refine Kd.C_drew ?_) | exact HR102_2.o)) hb); replace HB := sb1_ HB GE101 hb; clear hb hbox hg; have hnb15 := NB103_101.o; have hnc15 := NB101_103.o; obtain ⟨hcz16_0, hcz16_1, hcz16_2, hcz16_3, hcz16_4, hfz16_0, hfz16_1, hfz16_2, hfz16_3, hfz16_4⟩ := d5_ BK103))
     go_ret
     exact ⟨_, rt_, by (with_reducible repeat (first | apply Kd.V_alloc | apply Kd.V_drewN | apply Kd.V_drew)); exact Kd.V_mono (Kd.V_far (p := ⟨gb103, 4, none⟩) (Kd.V_far (p := ⟨gb103, 3, none⟩) (Kd.V_far (p := ⟨gb103, 2, none⟩) (Kd.V_far (p := ⟨gb103, 1, none⟩) (Kd.V_far (p := ⟨gb103, 0, none⟩) (Kd.V_mono HL102_1.o (fun k_ hk => (⟨hk, hk.2⟩ : _ ∧ k_ ≠ gb103))) (fun _ hk => hk.2) (.int .i64 ((rd_T156 l0_0 a1).f0))) (fun _ hk => hk.2) (.slice A102_1 ((rd_T156 l0_0 a1).f1).length c102_1)) (fun _ hk => hk.2) (.slice A102_2 ((rd_T156 l0_0 a1).f2).length c102_2)) (fun _ hk => hk.2) (.int .i64 ((rd_T156 l0_0 a1).f3))) (fun _ hk => hk.2) (.int .i64 ((rd_T156 l0_0 a1).f4))) (fun _ hk => hk.1.1.1), be2_ HB.o GE101.o GE103.o⟩
    ·rw [if_neg c11] at H
     have c11b0 : (((rd_T156 l0_0 a1).f0) == 2) = false := beq_eq_false_iff_ne.mpr c11
     have c11b1 : (((rd_T156 l0_0 a1).f0) != 2) = true := bne_iff_ne.mpr c11
     by_cases c17 : ((rd_T156 l0_0 a1).f0) = 3
     ·rw [if_pos c17] at H
      have c17b0 : (((rd_T156 l0_0 a1).f0) == 3) = true := beq_iff_eq.mpr c17
      have c17b1 : (((rd_T156 l0_0 a1).f0) != 3) = false := bne_eq_false_iff_eq.mpr c17
      clear c17
      by_cases c18 : 0 < (((rd_T156 l0_0 a1).f2).length : Int)
      ·rw [if_pos c18] at H; have c18b0 := dt_ c18
       have c18b1 : decide (0 < ((rd_T156 l0_0 a1).f2).length) = true := decide_eq_true (by omega)
       clear c18; obtain ⟨t105, A19, H⟩ := ob_ H
       by_cases c20 : t105 = true
       ·subst c20; rw [if_pos rfl] at H; obtain ⟨t111, A21, H⟩ := ob_ H
        by_cases c22 : 1 < (((rd_T156 l0_0 a1).f2).length : Int)
        ·rw [if_pos c22] at H; have c22b0 := dt_ c22
         have c22b1 : decide (1 < ((rd_T156 l0_0 a1).f2).length) = true := decide_eq_true (by omega)
         clear c22; obtain ⟨t115, A23, H⟩ := ob_ H; obtain ⟨t118, A24, H⟩ := ob_ H; obtain rfl := Option.some.inj H
         go_enter Try.func71, Try.ntmps71
         try go_wp2_with (first | ((with_reducible refine gate_dst (N := 2) rfl ?_); refine bx_ 2 #[.slice A0_0 l0_0.length c0_0] 29 ?_; intro gb101 hg w25 hbox hb; have BK101 := q_ (hbox); have GE101 := ge_ hg HB; replace HO0_0 := q_ (Kd.V_below (Kd.V_elderB (by (with_reducible repeat (first | apply Kd.V_alloc | apply Kd.V_drewN | apply Kd.V_drew)); exact HO0_0.o) gb101 (Nat.le_of_eq hg.symm)) hb); replace HB := sb_ HB hb; clear hb hbox hg; obtain ⟨hcz26_0, hfz26_0⟩ := d1_ BK101; have p102 : 0 ≤ (a1 : Int) := of_decide_eq_true as_; have q102 : a1 < (l0_0.length : Int) := of_decide_eq_true as_; obtain ⟨ad102, A102_1, c102_1, A102_2, c102_2, e102, hx102_0, hx102_1, hx102_2, hx102_3, hx102_4, hl102_1, hi102_1, hl102_2, hi102_2⟩ := at_T156 (Kd.V_reads' HO0_0.o).2.2 a1 p102 q102; cases e102; obtain ⟨ce102, hce102, hMe102, hcc102⟩ := Kd.V_get HO0_0.o z156 a1 p102 (by first | exact q102 | exact of_decide_eq_true as_ | (have e_ := (Kd.V_reads' HO0_0.o).1; omega)); obtain ⟨ua102_1, uc102_1, ua102_2, uc102_2, rfl, ul102_1, ge102_1, ul102_2, ge102_2⟩ := k156_openF hMe102; have hv102_1 := hcc102 1 _ rfl; rw [add_field _ _ 1 (by omega)] at hv102_1; replace hv102_1 := Option.some.inj (hv102_1.symm.trans hx102_1); injection hv102_1 with hva_ hvn_ hvc_; rw [hva_] at ge102_1; rw [hvc_] at ul102_1; have HL102_1 := q_ (show Kd.V k103 103 _ w.heap.size _ _ ((rd_T156 l0_0 a1).f1) from Kd.V_mk ul102_1 ge102_1); clear hva_ hvn_ hvc_ ge102_1 ul102_1; have hv102_2 := hcc102 2 _ rfl; rw [add_field _ _ 2 (by omega)] at hv102_2; replace hv102_2 := Option.some.inj (hv102_2.symm.trans hx102_2); injection hv102_2 with hva_ hvn_ hvc_; rw [hva_] at ge102_2; rw [hvc_] at ul102_2; have HL102_2 := q_ (show Kd.V (Kd.int .i64) 2 _ w.heap.size _ _ ((rd_T156 l0_0 a1).f2) from Kd.V_mk ul102_2 ge102_2); clear hva_ hvn_ hvc_ ge102_2 ul102_2; clear hcc102 hce102; have HR102_1 := q_ hi102_1; have HC102_1 := q_ hl102_1; clear hi102_1 hl102_1; have HR102_2 := q_ hi102_2; have HC102_2 := q_ hl102_2; clear hi102_2 hl102_2; replace p102 := eq_true p102; replace q102 := eq_true q102) | ((with_reducible refine gate_dst (N := 5) rfl ?_); refine bx_ 5 #[.int .i64 0, .slice none 0 0, .slice none 0 0, .int .i64 0, .int .i64 0] 156 ?_; intro gb103 hg w27 hbox hb; have BK103 := q_ (hbox); have GE103 := ge1_ hg HB GE101; have NB101_103 := nl_ hg BK101; have NB103_101 := ng_ hg BK101; replace HO0_0 := q_ (Kd.V_below (Kd.V_elderB (by (with_reducible repeat (first | apply Kd.V_alloc | apply Kd.V_drewN | apply Kd.V_drew)); exact HO0_0.o) gb103 (Nat.le_of_eq hg.symm)) hb); replace HL102_1 := q_ (Kd.V_below (Kd.V_elderB (by (with_reducible repeat (first | apply Kd.V_alloc | apply Kd.V_drewN | apply Kd.V_drew)); exact HL102_1.o) gb103 (Nat.le_of_eq hg.symm)) hb); replace HL102_2 := q_ (Kd.V_below (Kd.V_elderB (by (with_reducible repeat (first | apply Kd.V_alloc | apply Kd.V_drewN | apply Kd.V_drew)); exact HL102_2.o) gb103 (Nat.le_of_eq hg.symm)) hb); replace BK101 := lb_ BK101 hb; replace HR102_1 := q_ (Kd.C_below (by repeat (first | (with_reducible exact HR102_1.o) | (with_reducible refine Kd.C_alloc ?_ _) | (with_reducible refine Kd.C_drewN ?_ _) | (with_reducible refine Kd.C_drew ?_) | exact HR102_1.o)) hb); replace HR102_2 := q_ (Kd.C_below (by repeat (first | (with_reducible exact HR102_2.o) | (with_reducible refine Kd.C_alloc ?_ _) | (with_reducible refine Kd.C_drewN ?_ _) | (with_reducible refine Kd.C_drew ?_) | exact HR102_2.o)) hb); replace HB := sb1_ HB GE101 hb; clear hb hbox hg; have hnb28 := NB103_101.o; have hnc28 := NB101_103.o; obtain ⟨hcz29_0, hcz29_1, hcz29_2, hcz29_3, hcz29_4, hfz29_0, hfz29_1, hfz29_2, hfz29_3, hfz29_4⟩ := d5_ BK103))
         have n0_ : J0 (Kd.V k156 156 (((((w27.setCell ⟨gb103, 0, none⟩ (.int .i64 ((rd_T156 l0_0 a1).f0))).setCell ⟨gb103, 1, none⟩ (.slice A102_1 ((rd_T156 l0_0 a1).f1).length c102_1)).setCell ⟨gb103, 2, none⟩ (.slice A102_2 ((rd_T156 l0_0 a1).f2).length c102_2)).setCell ⟨gb103, 3, none⟩ (.int .i64 ((rd_T156 l0_0 a1).f3))).setCell ⟨gb103, 4, none⟩ (.int .i64 ((rd_T156 l0_0 a1).f4))) w.heap.size (fun k_ => (P0_0_ k_ ∨ w.heap.size ≤ k_) ∧ k_ ≠ gb101 ∧ k_ ≠ gb103) (.slice (some ad102) l0_0.length c0_0) l0_0) := ⟨by (with_reducible repeat (first | apply Kd.V_alloc | apply Kd.V_drewN | apply Kd.V_drew)); exact Kd.V_mono (Kd.V_far (p := ⟨gb103, 4, none⟩) (Kd.V_far (p := ⟨gb103, 3, none⟩) (Kd.V_far (p := ⟨gb103, 2, none⟩) (Kd.V_far (p := ⟨gb103, 1, none⟩) (Kd.V_far (p := ⟨gb103, 0, none⟩) (Kd.V_mono HO0_0.o (fun k_ hk => (⟨hk, hk.2⟩ : _ ∧ k_ ≠ gb103))) (fun _ hk => hk.2) (.int .i64 ((rd_T156 l0_0 a1).f0))) (fun _ hk => hk.2) (.slice A102_1 ((rd_T156 l0_0 a1).f1).length c102_1)) (fun _ hk => hk.2) (.slice A102_2 ((rd_T156 l0_0 a1).f2).length c102_2)) (fun _ hk => hk.2) (.int .i64 ((rd_T156 l0_0 a1).f3))) (fun _ hk => hk.2) (.int .i64 ((rd_T156 l0_0 a1).f4))) (fun _ hk => ⟨hk.1.1.1, ⟨hk.1.1.2, hk.1.2⟩⟩)⟩
         have n1_ : J0 (Kd.V k103 103 (((((w27.setCell ⟨gb103, 0, none⟩ (.int .i64 ((rd_T156 l0_0 a1).f0))).setCell ⟨gb103, 1, none⟩ (.slice A102_1 ((rd_T156 l0_0 a1).f1).length c102_1)).setCell ⟨gb103, 2, none⟩ (.slice A102_2 ((rd_T156 l0_0 a1).f2).length c102_2)).setCell ⟨gb103, 3, none⟩ (.int .i64 ((rd_T156 l0_0 a1).f3))).setCell ⟨gb103, 4, none⟩ (.int .i64 ((rd_T156 l0_0 a1).f4))) w.heap.size (fun k_ => (P0_0_ k_ ∨ w.heap.size ≤ k_) ∧ k_ ≠ gb101 ∧ k_ ≠ gb103) (.slice A102_1 ((rd_T156 l0_0 a1).f1).length c102_1) ((rd_T156 l0_0 a1).f1)) := ⟨by (with_reducible repeat (first | apply Kd.V_alloc | apply Kd.V_drewN | apply Kd.V_drew)); exact Kd.V_mono (Kd.V_far (p := ⟨gb103, 4, none⟩) (Kd.V_far (p := ⟨gb103, 3, none⟩) (Kd.V_far (p := ⟨gb103, 2, none⟩) (Kd.V_far (p := ⟨gb103, 1, none⟩) (Kd.V_far (p := ⟨gb103, 0, none⟩) (Kd.V_mono HL102_1.o (fun k_ hk => (⟨hk, hk.2⟩ : _ ∧ k_ ≠ gb103))) (fun _ hk => hk.2) (.int .i64 ((rd_T156 l0_0 a1).f0))) (fun _ hk => hk.2) (.slice A102_1 ((rd_T156 l0_0 a1).f1).length c102_1)) (fun _ hk => hk.2) (.slice A102_2 ((rd_T156 l0_0 a1).f2).length c102_2)) (fun _ hk => hk.2) (.int .i64 ((rd_T156 l0_0 a1).f3))) (fun _ hk => hk.2) (.int .i64 ((rd_T156 l0_0 a1).f4))) (fun _ hk => ⟨hk.1.1.1, ⟨hk.1.1.2, hk.1.2⟩⟩)⟩
         have n2_ : J0 (Kd.V (Kd.int .i64) 2 (((((w27.setCell ⟨gb103, 0, none⟩ (.int .i64 ((rd_T156 l0_0 a1).f0))).setCell ⟨gb103, 1, none⟩ (.slice A102_1 ((rd_T156 l0_0 a1).f1).length c102_1)).setCell ⟨gb103, 2, none⟩ (.slice A102_2 ((rd_T156 l0_0 a1).f2).length c102_2)).setCell ⟨gb103, 3, none⟩ (.int .i64 ((rd_T156 l0_0 a1).f3))).setCell ⟨gb103, 4, none⟩ (.int .i64 ((rd_T156 l0_0 a1).f4))) w.heap.size (fun k_ => (P0_0_ k_ ∨ w.heap.size ≤ k_) ∧ k_ ≠ gb101 ∧ k_ ≠ gb103) (.slice A102_2 ((rd_T156 l0_0 a1).f2).length c102_2) ((rd_T156 l0_0 a1).f2)) := ⟨by (with_reducible repeat (first | apply Kd.V_alloc | apply Kd.V_drewN | apply Kd.V_drew)); exact Kd.V_mono (Kd.V_far (p := ⟨gb103, 4, none⟩) (Kd.V_far (p := ⟨gb103, 3, none⟩) (Kd.V_far (p := ⟨gb103, 2, none⟩) (Kd.V_far (p := ⟨gb103, 1, none⟩) (Kd.V_far (p := ⟨gb103, 0, none⟩) (Kd.V_mono HL102_2.o (fun k_ hk => (⟨hk, hk.2⟩ : _ ∧ k_ ≠ gb103))) (fun _ hk => hk.2) (.int .i64 ((rd_T156 l0_0 a1).f0))) (fun _ hk => hk.2) (.slice A102_1 ((rd_T156 l0_0 a1).f1).length c102_1)) (fun _ hk => hk.2) (.slice A102_2 ((rd_T156 l0_0 a1).f2).length c102_2)) (fun _ hk => hk.2) (.int .i64 ((rd_T156 l0_0 a1).f3))) (fun _ hk => hk.2) (.int .i64 ((rd_T156 l0_0 a1).f4))) (fun _ hk => ⟨hk.1.1.1, ⟨hk.1.1.2, hk.1.2⟩⟩)⟩
         have n3_ : J0 ((((((w27.setCell ⟨gb103, 0, none⟩ (.int .i64 ((rd_T156 l0_0 a1).f0))).setCell ⟨gb103, 1, none⟩ (.slice A102_1 ((rd_T156 l0_0 a1).f1).length c102_1)).setCell ⟨gb103, 2, none⟩ (.slice A102_2 ((rd_T156 l0_0 a1).f2).length c102_2)).setCell ⟨gb103, 3, none⟩ (.int .i64 ((rd_T156 l0_0 a1).f3))).setCell ⟨gb103, 4, none⟩ (.int .i64 ((rd_T156 l0_0 a1).f4))).heap[gb101]? = some (.cells #[.slice (some ad102) l0_0.length c0_0] 29 (0, 0))) := ⟨by (with_reducible repeat (first | refine blk_drewN ?_ _ | refine blk_drew ?_ | refine blk_alloc ?_ _)); refine blk_far ?_ NB101_103.o _; (with_reducible repeat (first | refine blk_drewN ?_ _ | refine blk_drew ?_ | refine blk_alloc ?_ _)); refine blk_far ?_ NB101_103.o _; (with_reducible repeat (first | refine blk_drewN ?_ _ | refine blk_drew ?_ | refine blk_alloc ?_ _)); refine blk_far ?_ NB101_103.o _; (with_reducible repeat (first | refine blk_drewN ?_ _ | refine blk_drew ?_ | refine blk_alloc ?_ _)); refine blk_far ?_ NB101_103.o _; (with_reducible repeat (first | refine blk_drewN ?_ _ | refine blk_drew ?_ | refine blk_alloc ?_ _)); refine blk_far ?_ NB101_103.o _; (with_reducible repeat (first | refine blk_drewN ?_ _ | refine blk_drew ?_ | refine blk_alloc ?_ _)); exact BK101.o⟩
         have n4_ : J0 ((((((w27.setCell ⟨gb103, 0, none⟩ (.int .i64 ((rd_T156 l0_0 a1).f0))).setCell ⟨gb103, 1, none⟩ (.slice A102_1 ((rd_T156 l0_0 a1).f1).length c102_1)).setCell ⟨gb103, 2, none⟩ (.slice A102_2 ((rd_T156 l0_0 a1).f2).length c102_2)).setCell ⟨gb103, 3, none⟩ (.int .i64 ((rd_T156 l0_0 a1).f3))).setCell ⟨gb103, 4, none⟩ (.int .i64 ((rd_T156 l0_0 a1).f4))).heap[gb103]? = some (.cells #[.int .i64 ((rd_T156 l0_0 a1).f0), .slice A102_1 ((rd_T156 l0_0 a1).f1).length c102_1, .slice A102_2 ((rd_T156 l0_0 a1).f2).length c102_2, .int .i64 ((rd_T156 l0_0 a1).f3), .int .i64 ((rd_T156 l0_0 a1).f4)] 156 (0, 0))) := ⟨by (with_reducible repeat (first | refine blk_drewN ?_ _ | refine blk_drew ?_ | refine blk_alloc ?_ _)); refine blk_put (cs := #[.int .i64 ((rd_T156 l0_0 a1).f0), .slice A102_1 ((rd_T156 l0_0 a1).f1).length c102_1, .slice A102_2 ((rd_T156 l0_0 a1).f2).length c102_2, .int .i64 ((rd_T156 l0_0 a1).f3), .int .i64 0]) ?_ 4 _ rfl; (with_reducible repeat (first | refine blk_drewN ?_ _ | refine blk_drew ?_ | refine blk_alloc ?_ _)); refine blk_put (cs := #[.int .i64 ((rd_T156 l0_0 a1).f0), .slice A102_1 ((rd_T156 l0_0 a1).f1).length c102_1, .slice A102_2 ((rd_T156 l0_0 a1).f2).length c102_2, .int .i64 0, .int .i64 0]) ?_ 3 _ rfl; (with_reducible repeat (first | refine blk_drewN ?_ _ | refine blk_drew ?_ | refine blk_alloc ?_ _)); refine blk_put (cs := #[.int .i64 ((rd_T156 l0_0 a1).f0), .slice A102_1 ((rd_T156 l0_0 a1).f1).length c102_1, .slice none 0 0, .int .i64 0, .int .i64 0]) ?_ 2 _ rfl; (with_reducible repeat (first | refine blk_drewN ?_ _ | refine blk_drew ?_ | refine blk_alloc ?_ _)); refine blk_put (cs := #[.int .i64 ((rd_T156 l0_0 a1).f0), .slice none 0 0, .slice none 0 0, .int .i64 0, .int .i64 0]) ?_ 1 _ rfl; (with_reducible repeat (first | refine blk_drewN ?_ _ | refine blk_drew ?_ | refine blk_alloc ?_ _)); refine blk_put (cs := #[.int .i64 0, .slice none 0 0, .slice none 0 0, .int .i64 0, .int .i64 0]) ?_ 0 _ rfl; (with_reducible repeat (first | refine blk_drewN ?_ _ | refine blk_drew ?_ | refine blk_alloc ?_ _)); exact BK103.o⟩
         have n5_ : J0 (Below w.heap.size w (((((w27.setCell ⟨gb103, 0, none⟩ (.int .i64 ((rd_T156 l0_0 a1).f0))).setCell ⟨gb103, 1, none⟩ (.slice A102_1 ((rd_T156 l0_0 a1).f1).length c102_1)).setCell ⟨gb103, 2, none⟩ (.slice A102_2 ((rd_T156 l0_0 a1).f2).length c102_2)).setCell ⟨gb103, 3, none⟩ (.int .i64 ((rd_T156 l0_0 a1).f3))).setCell ⟨gb103, 4, none⟩ (.int .i64 ((rd_T156 l0_0 a1).f4)))) := ⟨be2_ HB.o GE101.o GE103.o⟩
         (try clear HO0_0)
         (try clear HL102_1)
         (try clear HL102_2)
         (try clear BK101)
         (try clear BK103)
         (try clear HB)
         generalize (((((w27.setCell ⟨gb103, 0, none⟩ (.int .i64 ((rd_T156 l0_0 a1).f0))).setCell ⟨gb103, 1, none⟩ (.slice A102_1 ((rd_T156 l0_0 a1).f1).length c102_1)).setCell ⟨gb103, 2, none⟩ (.slice A102_2 ((rd_T156 l0_0 a1).f2).length c102_2)).setCell ⟨gb103, 3, none⟩ (.int .i64 ((rd_T156 l0_0 a1).f3))).setCell ⟨gb103, 4, none⟩ (.int .i64 ((rd_T156 l0_0 a1).f4))) = w30 at n0_ n1_ n2_ n3_ n4_ n5_ ⊢
         have HO0_0 := n0_; have HL102_1 := n1_; have HL102_2 := n2_; have BK101 := n3_; have BK103 := n4_; have HB := n5_; clear n0_ n1_ n2_ n3_ n4_ n5_; replace HO0_0 := q_ (Kd.V_drew HO0_0.o); replace HL102_1 := q_ (Kd.V_drew HL102_1.o); replace HL102_2 := q_ (Kd.V_drew HL102_2.o); replace BK101 := q_ (blk_drew BK101.o); replace BK103 := q_ (blk_drew BK103.o); replace HB := q_ (below_drew1 HB.o)
         have p104 : 0 ≤ (0 : Int) := (by omega)
         have q104 : 0 < (((rd_T156 l0_0 a1).f2).length : Int) := of_decide_eq_true as_
         obtain ⟨ad104, e104, hx104_0⟩ := Kd.at_int ((Kd.V_reads' HL102_2.o).2.2) 0 p104 q104
         cases e104
         have qi104 : (0 < ((rd_T156 l0_0 a1).f2).length) = True := eq_true (by omega)
         (try rw [show ((0 : Int)).toNat = 0 from rfl] at hx104_0)
         (try rw [Addr.add_zero'] at hx104_0)
         replace p104 := eq_true p104; replace q104 := eq_true q104
         refine start_ (n := 7) (S := fun w' => w'.cell? ⟨gb101, 0, none⟩ = some (.slice (some ad102) l0_0.length c0_0) ∧ w'.cell? ⟨gb103, 0, none⟩ = some (.int .i64 ((rd_T156 l0_0 a1).f0)) ∧ w'.cell? ⟨gb103, 1, none⟩ = some (.slice A102_1 ((rd_T156 l0_0 a1).f1).length c102_1) ∧ w'.cell? ⟨gb103, 2, none⟩ = some (.slice (some ad104) ((rd_T156 l0_0 a1).f2).length c102_2) ∧ w'.cell? ⟨gb103, 3, none⟩ = some (.int .i64 ((rd_T156 l0_0 a1).f3)) ∧ w'.cell? ⟨gb103, 4, none⟩ = some (.int .i64 ((rd_T156 l0_0 a1).f4)) ∧ w'.cell? ad104 = some (.int .i64 (rd ((rd_T156 l0_0 a1).f2) 0))) (ds := []) (bb 7 0) (by kernel_rfl) rfl rfl ⟨(blk_cell BK101.o 0).trans rfl, (blk_cell BK103.o 0).trans rfl, (blk_cell BK103.o 1).trans rfl, (blk_cell BK103.o 2).trans rfl, (blk_cell BK103.o 3).trans rfl, (blk_cell BK103.o 4).trans rfl, hx104_0⟩ (fun hHeld => ?_)
         generalize w30.drew = w31 at HO0_0 HL102_1 HL102_2 BK101 BK103 HB hx104_0 hHeld ⊢
         refine pk_ 1 22 2 ?_; refine tk_ 0 21 3 hHeld ?_; refine tk_ 2 23 7 hHeld ?_; refine pk_ 3 24 15 ?_; refine tk_ 4 25 31 hHeld ?_
         refine one_ (i := 5) (N := some 26) (bb 7 63) rfl rfl (by kernel_rfl) (by decide) (fun K hK => ?_)
         refine gs_ Try.func68 #[.agg #[.slice (some ad102) l0_0.length c0_0], .int .i64 (rd ((rd_T156 l0_0 a1).f2) 0)] ?_
         with_reducible refine (impl_Rx_nullable.calls k _ _ l0_0 (rd ((rd_T156 l0_0 a1).f2) 0) true _ ?side1 ?side2 A19.o).mono ?_
         (case side1 => repeat (first | exact (Kd.V_reads' HO0_0.o).2.2 | (with_reducible refine Kd.C_alloc ?_ _) | (with_reducible refine Kd.C_drewN ?_ _) | (with_reducible refine Kd.C_drew ?_)))
         (case side2 => exact (Kd.V_reads' HO0_0.o).2.1)
         rintro e w32 ⟨rfl, hb⟩
         have HS6_ := (hb.cell (World.block_lt_of_cell? _ _ (hHeld.2.2.2.2.2.2))).trans (hHeld.2.2.2.2.2.2); refine ⟨_, rfl, ?_⟩
         replace HO0_0 := q_ (Kd.V_below (by (with_reducible repeat (first | apply Kd.V_alloc | apply Kd.V_drewN | apply Kd.V_drew)); exact HO0_0.o) hb)
         replace HL102_1 := q_ (Kd.V_below (by (with_reducible repeat (first | apply Kd.V_alloc | apply Kd.V_drewN | apply Kd.V_drew)); exact HL102_1.o) hb)
         replace HL102_2 := q_ (Kd.V_below (by (with_reducible repeat (first | apply Kd.V_alloc | apply Kd.V_drewN | apply Kd.V_drew)); exact HL102_2.o) hb)
         replace BK101 := lb_ BK101 hb; replace BK103 := lb_ BK103 hb; replace HB := sb2_ HB GE101 GE103 hb
         (try clear hb)
         (try clear hb2)
         (try clear hk)
         (try clear hi)
         refine hK.out _ _ ⟨(blk_cell BK101.o 0).trans rfl, (blk_cell BK103.o 0).trans rfl, (blk_cell BK103.o 1).trans rfl, (blk_cell BK103.o 2).trans rfl, (blk_cell BK103.o 3).trans rfl, (blk_cell BK103.o 4).trans rfl, HS6_⟩ (fun hHeld => ?_)
         clear hK K; refine no_ (some 26) ?_; refine pk_ 6 27 127 ?_
         refine done_ (by kernel_rfl) ?_
         try go_wp2
         replace HO0_0 := q_ (Kd.V_drew HO0_0.o); replace HL102_1 := q_ (Kd.V_drew HL102_1.o); replace HL102_2 := q_ (Kd.V_drew HL102_2.o); replace BK101 := q_ (blk_drew BK101.o); replace BK103 := q_ (blk_drew BK103.o); replace HB := q_ (below_drew1 HB.o)
         have p110 : 0 ≤ (0 : Int) := (by omega)
         have q110 : 0 < (((rd_T156 l0_0 a1).f2).length : Int) := of_decide_eq_true as_
         obtain ⟨ad110, e110, hx110_0⟩ := Kd.at_int ((Kd.V_reads' HL102_2.o).2.2) 0 p110 q110
         obtain rfl : ad104 = ad110 := (by injection e110)
         have qi110 : (0 < ((rd_T156 l0_0 a1).f2).length) = True := eq_true (by omega)
         (try rw [show ((0 : Int)).toNat = 0 from rfl] at hx110_0)
         (try rw [Addr.add_zero'] at hx110_0)
         replace p110 := eq_true p110; replace q110 := eq_true q110
         have p114 : 0 ≤ (1 : Int) := (by omega)
         have q114 : 1 < (((rd_T156 l0_0 a1).f2).length : Int) := of_decide_eq_true as_
         obtain ⟨ad114, e114, hx114_0⟩ := Kd.at_int ((Kd.V_reads' HL102_2.o).2.2) 1 p114 q114
         obtain rfl : ad104 = ad114 := (by injection e114)
         (try simp only [show (1 : Int).toNat = 1 from rfl, Nat.reduceMul, Nat.reduceEqDiff, Go.Addr.add, ↓reduceIte] at hx114_0)
         have qi114 : (1 < ((rd_T156 l0_0 a1).f2).length) = True := eq_true (by omega)
         (try rw [show ((1 : Int)).toNat = 1 from rfl] at hx114_0)
         replace p114 := eq_true p114; replace q114 := eq_true q114
         refine start_ (n := 14) (S := fun w' => w'.cell? ⟨gb101, 0, none⟩ = some (.slice (some ad102) l0_0.length c0_0) ∧ w'.cell? ⟨gb103, 0, none⟩ = some (.int .i64 ((rd_T156 l0_0 a1).f0)) ∧ w'.cell? ⟨gb103, 1, none⟩ = some (.slice A102_1 ((rd_T156 l0_0 a1).f1).length c102_1) ∧ w'.cell? ⟨gb103, 2, none⟩ = some (.slice (some ad104) ((rd_T156 l0_0 a1).f2).length c102_2) ∧ w'.cell? ⟨gb103, 3, none⟩ = some (.int .i64 ((rd_T156 l0_0 a1).f3)) ∧ w'.cell? ⟨gb103, 4, none⟩ = some (.int .i64 ((rd_T156 l0_0 a1).f4)) ∧ w'.cell? ad104 = some (.int .i64 (rd ((rd_T156 l0_0 a1).f2) 0)) ∧ w'.cell? ⟨ad104.block, ad104.off + 1, none⟩ = some (.int .i64 (rd ((rd_T156 l0_0 a1).f2) 1))) (ds := []) (bb 14 0) (by kernel_rfl) rfl rfl ⟨(blk_cell BK101.o 0).trans rfl, (blk_cell BK103.o 0).trans rfl, (blk_cell BK103.o 1).trans rfl, (blk_cell BK103.o 2).trans rfl, (blk_cell BK103.o 3).trans rfl, (blk_cell BK103.o 4).trans rfl, hx110_0, hx114_0⟩ (fun hHeld => ?_); refine with_tabW impl_Rx_first.tab10 impl_Rx_first.bits10 (fun HT_ HW_ => ?_)
         generalize w32.drew = w33 at HO0_0 HL102_1 HL102_2 BK101 BK103 HB hx110_0 hx114_0 hHeld ⊢
         refine pv_ 1 35 2 HT_.o ?_; refine pv_ 7 41 130 HT_.o ?_; refine tv_ 0 34 131 HT_.o HW_.o hHeld ?_; refine tv_ 2 36 135 HT_.o HW_.o hHeld ?_; refine pv_ 3 37 143 HT_.o ?_; refine tv_ 4 38 159 HT_.o HW_.o hHeld ?_; refine tv_ 6 40 223 HT_.o HW_.o hHeld ?_; refine tv_ 8 42 479 HT_.o HW_.o hHeld ?_; refine pv_ 9 43 991 HT_.o ?_; refine tv_ 10 44 2015 HT_.o HW_.o hHeld ?_
         refine one_ (i := 5) (N := some 39) (bb 14 2047) rfl rfl (one_of HT_.o (by kernel_rfl)) (by decide) (fun K hK => ?_)
         refine gs_ Try.func71 #[.agg #[.slice (some ad102) l0_0.length c0_0], .int .i64 (rd ((rd_T156 l0_0 a1).f2) 0)] ?_
         with_reducible refine (ih k (by omega) (fun k_ => ((P0_0_ k_ ∨ w.heap.size ≤ k_) ∧ (k_ ≠ gb101 ∧ k_ ≠ gb103))) _ _ l0_0 (rd ((rd_T156 l0_0 a1).f2) 0) t111 _ ?side1 A21.o).mono ?_
         (case side1 => exact HO0_0.o)
         rintro e w34 ⟨v112, rfl, ho0, hb⟩
         have HS6_ := (hb.cell (World.block_lt_of_cell? _ _ (hHeld.2.2.2.2.2.2.1))).trans (hHeld.2.2.2.2.2.2.1); have HS7_ := (hb.cell (World.block_lt_of_cell? _ _ (hHeld.2.2.2.2.2.2.2))).trans (hHeld.2.2.2.2.2.2.2); refine ⟨_, rfl, ?_⟩
         have HO113 := q_ (Kd.V_lower (Kd.V_mono (ok' := fun k_ => (P0_0_ k_ ∨ w.heap.size ≤ k_) ∧ k_ ≠ gb101 ∧ k_ ≠ gb103) ho0 (fun k_ hk_ => ⟨Or.elim hk_ (fun hs_ => hs_.1) (fun hn_ => (.inr (Nat.le_trans (below_size (be2_ HB.o GE101.o GE103.o)) hn_))), Or.elim hk_ (fun hs_ => hs_.2.1) (fun hn_ => (Kd.freshB (g := gb101) (o := .cells #[.slice (some ad102) l0_0.length c0_0] 29 (0, 0)) (bk_ BK101.o) k_ hn_)), Or.elim hk_ (fun hs_ => hs_.2.2) (fun hn_ => (Kd.freshB (g := gb103) (o := .cells #[.int .i64 ((rd_T156 l0_0 a1).f0), .slice A102_1 ((rd_T156 l0_0 a1).f1).length c102_1, .slice (some ad104) ((rd_T156 l0_0 a1).f2).length c102_2, .int .i64 ((rd_T156 l0_0 a1).f3), .int .i64 ((rd_T156 l0_0 a1).f4)] 156 (0, 0)) (bk_ BK103.o) k_ hn_))⟩)) (below_size (be2_ HB.o GE101.o GE103.o)))
         replace HO0_0 := q_ (Kd.V_below (by (with_reducible repeat (first | apply Kd.V_alloc | apply Kd.V_drewN | apply Kd.V_drew)); exact HO0_0.o) hb)
         replace HL102_1 := q_ (Kd.V_below (by (with_reducible repeat (first | apply Kd.V_alloc | apply Kd.V_drewN | apply Kd.V_drew)); exact HL102_1.o) hb)
         replace HL102_2 := q_ (Kd.V_below (by (with_reducible repeat (first | apply Kd.V_alloc | apply Kd.V_drewN | apply Kd.V_drew)); exact HL102_2.o) hb)
         replace BK101 := lb_ BK101 hb; replace BK103 := lb_ BK103 hb; replace HB := sb2_ HB GE101 GE103 hb
         (try clear hb)
         (try clear hb2)
         (try clear hk)
         (try clear hi)
         (try clear ho0)
         refine hK.out _ _ ⟨(blk_cell BK101.o 0).trans rfl, (blk_cell BK103.o 0).trans rfl, (blk_cell BK103.o 1).trans rfl, (blk_cell BK103.o 2).trans rfl, (blk_cell BK103.o 3).trans rfl, (blk_cell BK103.o 4).trans rfl, HS6_, HS7_⟩ (fun hHeld => ?_)
         clear hK K; refine no_ (some 39) ?_
         refine one_ (i := 11) (N := some 45) (bb 14 4095) rfl rfl (one_of HT_.o (by kernel_rfl)) (by decide) (fun K hK => ?_)
         refine gs_ Try.func71 #[.agg #[.slice (some ad102) l0_0.length c0_0], .int .i64 (rd ((rd_T156 l0_0 a1).f2) 1)] ?_
         with_reducible refine (ih k (by omega) (fun k_ => ((P0_0_ k_ ∨ w.heap.size ≤ k_) ∧ (k_ ≠ gb101 ∧ k_ ≠ gb103))) _ _ l0_0 (rd ((rd_T156 l0_0 a1).f2) 1) t115 _ ?side1 A23.o).mono ?_
         (case side1 => exact HO0_0.o)
         rintro e w35 ⟨v116, rfl, ho0, hb⟩
         have HS6_ := (hb.cell (World.block_lt_of_cell? _ _ (hHeld.2.2.2.2.2.2.1))).trans (hHeld.2.2.2.2.2.2.1); have HS7_ := (hb.cell (World.block_lt_of_cell? _ _ (hHeld.2.2.2.2.2.2.2))).trans (hHeld.2.2.2.2.2.2.2); refine ⟨_, rfl, ?_⟩
         have HO117 := q_ (Kd.V_lower (Kd.V_mono (ok' := fun k_ => (P0_0_ k_ ∨ w.heap.size ≤ k_) ∧ k_ ≠ gb101 ∧ k_ ≠ gb103) ho0 (fun k_ hk_ => ⟨Or.elim hk_ (fun hs_ => hs_.1) (fun hn_ => (.inr (Nat.le_trans (below_size (be2_ HB.o GE101.o GE103.o)) hn_))), Or.elim hk_ (fun hs_ => hs_.2.1) (fun hn_ => (Kd.freshB (g := gb101) (o := .cells #[.slice (some ad102) l0_0.length c0_0] 29 (0, 0)) (bk_ BK101.o) k_ hn_)), Or.elim hk_ (fun hs_ => hs_.2.2) (fun hn_ => (Kd.freshB (g := gb103) (o := .cells #[.int .i64 ((rd_T156 l0_0 a1).f0), .slice A102_1 ((rd_T156 l0_0 a1).f1).length c102_1, .slice (some ad104) ((rd_T156 l0_0 a1).f2).length c102_2, .int .i64 ((rd_T156 l0_0 a1).f3), .int .i64 ((rd_T156 l0_0 a1).f4)] 156 (0, 0)) (bk_ BK103.o) k_ hn_))⟩)) (below_size (be2_ HB.o GE101.o GE103.o)))
         replace HO0_0 := q_ (Kd.V_below (by (with_reducible repeat (first | apply Kd.V_alloc | apply Kd.V_drewN | apply Kd.V_drew)); exact HO0_0.o) hb)
         replace HL102_1 := q_ (Kd.V_below (by (with_reducible repeat (first | apply Kd.V_alloc | apply Kd.V_drewN | apply Kd.V_drew)); exact HL102_1.o) hb)
         replace HL102_2 := q_ (Kd.V_below (by (with_reducible repeat (first | apply Kd.V_alloc | apply Kd.V_drewN | apply Kd.V_drew)); exact HL102_2.o) hb)
         replace HO113 := q_ (Kd.V_below (by (with_reducible repeat (first | apply Kd.V_alloc | apply Kd.V_drewN | apply Kd.V_drew)); exact HO113.o) hb)
         replace BK101 := lb_ BK101 hb; replace BK103 := lb_ BK103 hb; replace HB := sb2_ HB GE101 GE103 hb
         (try clear hb)
         (try clear hb2)
         (try clear hk)
         (try clear hi)
         (try clear ho0)
         obtain ⟨Ao36, co36, eo36⟩ := Kd.V_slice HO113.o
         (first | subst eo36 | (injection eo36 with f1_ f2_ f3_; have f4_ := f1_.symm; have f5_ := f3_.symm; clear f1_ f2_ f3_; subst f4_; subst f5_))
         obtain ⟨Ao37, co37, eo37⟩ := Kd.V_slice HO117.o
         (first | subst eo37 | (injection eo37 with f1_ f2_ f3_; have f4_ := f1_.symm; have f5_ := f3_.symm; clear f1_ f2_ f3_; subst f4_; subst f5_))
         refine hK.out _ _ ⟨(blk_cell BK101.o 0).trans rfl, (blk_cell BK103.o 0).trans rfl, (blk_cell BK103.o 1).trans rfl, (blk_cell BK103.o 2).trans rfl, (blk_cell BK103.o 3).trans rfl, (blk_cell BK103.o 4).trans rfl, HS6_, HS7_⟩ (fun hHeld => ?_)
         clear hK K; refine no_ (some 45) ?_
         refine one_ (i := 12) (N := some 46) (bb 14 8191) rfl rfl (one_of HT_.o (by kernel_rfl)) (by decide) (fun K hK => ?_)
         refine gs_ Try.func70 #[.slice Ao36 t111.length co36, .slice Ao37 t115.length co37] ?_
         with_reducible refine (impl_Joined.calls _ _ t111 _ _ t115 t118 _ ?side1 ?side2 ?side3 ?side4 A24.o).mono ?_
         (case side1 => repeat (first | exact (Kd.V_reads' HO113.o).2.2 | (with_reducible refine Kd.C_alloc ?_ _) | (with_reducible refine Kd.C_drewN ?_ _) | (with_reducible refine Kd.C_drew ?_)))
         (case side2 => exact (Kd.V_reads' HO113.o).2.1)
         (case side3 => repeat (first | exact (Kd.V_reads' HO117.o).2.2 | (with_reducible refine Kd.C_alloc ?_ _) | (with_reducible refine Kd.C_drewN ?_ _) | (with_reducible refine Kd.C_drew ?_)))
         (case side4 => exact (Kd.V_reads' HO117.o).2.1)
         rintro e w38 ⟨v119, rfl, ho0, hb⟩
         have HS6_ := (hb.cell (World.block_lt_of_cell? _ _ (hHeld.2.2.2.2.2.2.1))).trans (hHeld.2.2.2.2.2.2.1); have HS7_ := (hb.cell (World.block_lt_of_cell? _ _ (hHeld.2.2.2.2.2.2.2))).trans (hHeld.2.2.2.2.2.2.2); refine ⟨_, rfl, ?_⟩
         have HO120 := q_ (Kd.R_lower (Kd.R_newM (M := fun k_ => (w.heap.size ≤ k_)) ho0 (below_size (be2_ HB.o GE101.o GE103.o)) (fun k_ h_ => h_)) (below_size (be2_ HB.o GE101.o GE103.o)))
         replace HO0_0 := q_ (Kd.V_elder' (by (with_reducible repeat (first | apply Kd.V_alloc | apply Kd.V_drewN | apply Kd.V_drew)); exact HO0_0.o) (Kd.R_base ho0) hb)
         replace HL102_1 := q_ (Kd.V_elder' (by (with_reducible repeat (first | apply Kd.V_alloc | apply Kd.V_drewN | apply Kd.V_drew)); exact HL102_1.o) (Kd.R_base ho0) hb)
         replace HL102_2 := q_ (Kd.V_elder' (by (with_reducible repeat (first | apply Kd.V_alloc | apply Kd.V_drewN | apply Kd.V_drew)); exact HL102_2.o) (Kd.R_base ho0) hb)
         replace HO113 := q_ (Kd.V_elder' (by (with_reducible repeat (first | apply Kd.V_alloc | apply Kd.V_drewN | apply Kd.V_drew)); exact HO113.o) (Kd.R_base ho0) hb)
         replace HO117 := q_ (Kd.V_elder' (by (with_reducible repeat (first | apply Kd.V_alloc | apply Kd.V_drewN | apply Kd.V_drew)); exact HO117.o) (Kd.R_base ho0) hb)
         replace BK101 := lb_ BK101 hb; replace BK103 := lb_ BK103 hb; replace HB := sb2_ HB GE101 GE103 hb
         (try clear hb)
         (try clear hb2)
         (try clear hk)
         (try clear hi)
         (try clear ho0)
         refine hK.out _ _ ⟨(blk_cell BK101.o 0).trans rfl, (blk_cell BK103.o 0).trans rfl, (blk_cell BK103.o 1).trans rfl, (blk_cell BK103.o 2).trans rfl, (blk_cell BK103.o 3).trans rfl, (blk_cell BK103.o 4).trans rfl, HS6_, HS7_⟩ (fun hHeld => ?_)
         clear hK K; refine no_ (some 46) ?_; refine pv_ 13 4 16383 HT_.o ?_
         refine done_ (done_of HT_.o (by kernel_rfl)) ?_
         try go_wp2
         go_ret
         exact ⟨_, rt_, Kd.V_mono (Kd.R_V (by (with_reducible repeat (first | apply Kd.R_alloc | apply Kd.R_drewN | apply Kd.R_drew)); exact Kd.R_mono HO120.o (fun _ hk => hk.1))) (fun k_ hk => by first | exact ⟨(.inr (hk.1)), hk.2⟩ | exact (.inr (hk))), be2_ HB.o GE101.o GE103.o⟩
        ·rw [if_neg c22] at H
         exact absurd H (by simp)
       ·replace c20 := Bool.eq_false_iff.mpr c20; subst c20; rw [if_neg nft_] at H; obtain ⟨t107, A39, H⟩ := ob_ H; obtain rfl := Option.some.inj H
        go_enter Try.func71, Try.ntmps71
        try go_wp2_with (first | ((with_reducible refine gate_dst (N := 2) rfl ?_); refine bx_ 2 #[.slice A0_0 l0_0.length c0_0] 29 ?_; intro gb101 hg w40 hbox hb; have BK101 := q_ (hbox); have GE101 := ge_ hg HB; replace HO0_0 := q_ (Kd.V_below (Kd.V_elderB (by (with_reducible repeat (first | apply Kd.V_alloc | apply Kd.V_drewN | apply Kd.V_drew)); exact HO0_0.o) gb101 (Nat.le_of_eq hg.symm)) hb); replace HB := sb_ HB hb; clear hb hbox hg; obtain ⟨hcz41_0, hfz41_0⟩ := d1_ BK101; have p102 : 0 ≤ (a1 : Int) := of_decide_eq_true as_; have q102 : a1 < (l0_0.length : Int) := of_decide_eq_true as_; obtain ⟨ad102, A102_1, c102_1, A102_2, c102_2, e102, hx102_0, hx102_1, hx102_2, hx102_3, hx102_4, hl102_1, hi102_1, hl102_2, hi102_2⟩ := at_T156 (Kd.V_reads' HO0_0.o).2.2 a1 p102 q102; cases e102; obtain ⟨ce102, hce102, hMe102, hcc102⟩ := Kd.V_get HO0_0.o z156 a1 p102 (by first | exact q102 | exact of_decide_eq_true as_ | (have e_ := (Kd.V_reads' HO0_0.o).1; omega)); obtain ⟨ua102_1, uc102_1, ua102_2, uc102_2, rfl, ul102_1, ge102_1, ul102_2, ge102_2⟩ := k156_openF hMe102; have hv102_1 := hcc102 1 _ rfl; rw [add_field _ _ 1 (by omega)] at hv102_1; replace hv102_1 := Option.some.inj (hv102_1.symm.trans hx102_1); injection hv102_1 with hva_ hvn_ hvc_; rw [hva_] at ge102_1; rw [hvc_] at ul102_1; have HL102_1 := q_ (show Kd.V k103 103 _ w.heap.size _ _ ((rd_T156 l0_0 a1).f1) from Kd.V_mk ul102_1 ge102_1); clear hva_ hvn_ hvc_ ge102_1 ul102_1; have hv102_2 := hcc102 2 _ rfl; rw [add_field _ _ 2 (by omega)] at hv102_2; replace hv102_2 := Option.some.inj (hv102_2.symm.trans hx102_2); injection hv102_2 with hva_ hvn_ hvc_; rw [hva_] at ge102_2; rw [hvc_] at ul102_2; have HL102_2 := q_ (show Kd.V (Kd.int .i64) 2 _ w.heap.size _ _ ((rd_T156 l0_0 a1).f2) from Kd.V_mk ul102_2 ge102_2); clear hva_ hvn_ hvc_ ge102_2 ul102_2; clear hcc102 hce102; have HR102_1 := q_ hi102_1; have HC102_1 := q_ hl102_1; clear hi102_1 hl102_1; have HR102_2 := q_ hi102_2; have HC102_2 := q_ hl102_2; clear hi102_2 hl102_2; replace p102 := eq_true p102; replace q102 := eq_true q102) | ((with_reducible refine gate_dst (N := 5) rfl ?_); refine bx_ 5 #[.int .i64 0, .slice none 0 0, .slice none 0 0, .int .i64 0, .int .i64 0] 156 ?_; intro gb103 hg w42 hbox hb; have BK103 := q_ (hbox); have GE103 := ge1_ hg HB GE101; have NB101_103 := nl_ hg BK101; have NB103_101 := ng_ hg BK101; replace HO0_0 := q_ (Kd.V_below (Kd.V_elderB (by (with_reducible repeat (first | apply Kd.V_alloc | apply Kd.V_drewN | apply Kd.V_drew)); exact HO0_0.o) gb103 (Nat.le_of_eq hg.symm)) hb); replace HL102_1 := q_ (Kd.V_below (Kd.V_elderB (by (with_reducible repeat (first | apply Kd.V_alloc | apply Kd.V_drewN | apply Kd.V_drew)); exact HL102_1.o) gb103 (Nat.le_of_eq hg.symm)) hb); replace HL102_2 := q_ (Kd.V_below (Kd.V_elderB (by (with_reducible repeat (first | apply Kd.V_alloc | apply Kd.V_drewN | apply Kd.V_drew)); exact HL102_2.o) gb103 (Nat.le_of_eq hg.symm)) hb); replace BK101 := lb_ BK101 hb; replace HR102_1 := q_ (Kd.C_below (by repeat (first | (with_reducible exact HR102_1.o) | (with_reducible refine Kd.C_alloc ?_ _) | (with_reducible refine Kd.C_drewN ?_ _) | (with_reducible refine Kd.C_drew ?_) | exact HR102_1.o)) hb); replace HR102_2 := q_ (Kd.C_below (by repeat (first | (with_reducible exact HR102_2.o) | (with_reducible refine Kd.C_alloc ?_ _) | (with_reducible refine Kd.C_drewN ?_ _) | (with_reducible refine Kd.C_drew ?_) | exact HR102_2.o)) hb); replace HB := sb1_ HB GE101 hb; clear hb hbox hg; have hnb43 := NB103_101.o; have hnc43 := NB101_103.o; obtain ⟨hcz44_0, hcz44_1, hcz44_2, hcz44_3, hcz44_4, hfz44_0, hfz44_1, hfz44_2, hfz44_3, hfz44_4⟩ := d5_ BK103))
        have n0_ : J0 (Kd.V k156 156 (((((w42.setCell ⟨gb103, 0, none⟩ (.int .i64 ((rd_T156 l0_0 a1).f0))).setCell ⟨gb103, 1, none⟩ (.slice A102_1 ((rd_T156 l0_0 a1).f1).length c102_1)).setCell ⟨gb103, 2, none⟩ (.slice A102_2 ((rd_T156 l0_0 a1).f2).length c102_2)).setCell ⟨gb103, 3, none⟩ (.int .i64 ((rd_T156 l0_0 a1).f3))).setCell ⟨gb103, 4, none⟩ (.int .i64 ((rd_T156 l0_0 a1).f4))) w.heap.size (fun k_ => (P0_0_ k_ ∨ w.heap.size ≤ k_) ∧ k_ ≠ gb101 ∧ k_ ≠ gb103) (.slice (some ad102) l0_0.length c0_0) l0_0) := ⟨by (with_reducible repeat (first | apply Kd.V_alloc | apply Kd.V_drewN | apply Kd.V_drew)); exact Kd.V_mono (Kd.V_far (p := ⟨gb103, 4, none⟩) (Kd.V_far (p := ⟨gb103, 3, none⟩) (Kd.V_far (p := ⟨gb103, 2, none⟩) (Kd.V_far (p := ⟨gb103, 1, none⟩) (Kd.V_far (p := ⟨gb103, 0, none⟩) (Kd.V_mono HO0_0.o (fun k_ hk => (⟨hk, hk.2⟩ : _ ∧ k_ ≠ gb103))) (fun _ hk => hk.2) (.int .i64 ((rd_T156 l0_0 a1).f0))) (fun _ hk => hk.2) (.slice A102_1 ((rd_T156 l0_0 a1).f1).length c102_1)) (fun _ hk => hk.2) (.slice A102_2 ((rd_T156 l0_0 a1).f2).length c102_2)) (fun _ hk => hk.2) (.int .i64 ((rd_T156 l0_0 a1).f3))) (fun _ hk => hk.2) (.int .i64 ((rd_T156 l0_0 a1).f4))) (fun _ hk => ⟨hk.1.1.1, ⟨hk.1.1.2, hk.1.2⟩⟩)⟩
        have n1_ : J0 (Kd.V k103 103 (((((w42.setCell ⟨gb103, 0, none⟩ (.int .i64 ((rd_T156 l0_0 a1).f0))).setCell ⟨gb103, 1, none⟩ (.slice A102_1 ((rd_T156 l0_0 a1).f1).length c102_1)).setCell ⟨gb103, 2, none⟩ (.slice A102_2 ((rd_T156 l0_0 a1).f2).length c102_2)).setCell ⟨gb103, 3, none⟩ (.int .i64 ((rd_T156 l0_0 a1).f3))).setCell ⟨gb103, 4, none⟩ (.int .i64 ((rd_T156 l0_0 a1).f4))) w.heap.size (fun k_ => (P0_0_ k_ ∨ w.heap.size ≤ k_) ∧ k_ ≠ gb101 ∧ k_ ≠ gb103) (.slice A102_1 ((rd_T156 l0_0 a1).f1).length c102_1) ((rd_T156 l0_0 a1).f1)) := ⟨by (with_reducible repeat (first | apply Kd.V_alloc | apply Kd.V_drewN | apply Kd.V_drew)); exact Kd.V_mono (Kd.V_far (p := ⟨gb103, 4, none⟩) (Kd.V_far (p := ⟨gb103, 3, none⟩) (Kd.V_far (p := ⟨gb103, 2, none⟩) (Kd.V_far (p := ⟨gb103, 1, none⟩) (Kd.V_far (p := ⟨gb103, 0, none⟩) (Kd.V_mono HL102_1.o (fun k_ hk => (⟨hk, hk.2⟩ : _ ∧ k_ ≠ gb103))) (fun _ hk => hk.2) (.int .i64 ((rd_T156 l0_0 a1).f0))) (fun _ hk => hk.2) (.slice A102_1 ((rd_T156 l0_0 a1).f1).length c102_1)) (fun _ hk => hk.2) (.slice A102_2 ((rd_T156 l0_0 a1).f2).length c102_2)) (fun _ hk => hk.2) (.int .i64 ((rd_T156 l0_0 a1).f3))) (fun _ hk => hk.2) (.int .i64 ((rd_T156 l0_0 a1).f4))) (fun _ hk => ⟨hk.1.1.1, ⟨hk.1.1.2, hk.1.2⟩⟩)⟩
        have n2_ : J0 (Kd.V (Kd.int .i64) 2 (((((w42.setCell ⟨gb103, 0, none⟩ (.int .i64 ((rd_T156 l0_0 a1).f0))).setCell ⟨gb103, 1, none⟩ (.slice A102_1 ((rd_T156 l0_0 a1).f1).length c102_1)).setCell ⟨gb103, 2, none⟩ (.slice A102_2 ((rd_T156 l0_0 a1).f2).length c102_2)).setCell ⟨gb103, 3, none⟩ (.int .i64 ((rd_T156 l0_0 a1).f3))).setCell ⟨gb103, 4, none⟩ (.int .i64 ((rd_T156 l0_0 a1).f4))) w.heap.size (fun k_ => (P0_0_ k_ ∨ w.heap.size ≤ k_) ∧ k_ ≠ gb101 ∧ k_ ≠ gb103) (.slice A102_2 ((rd_T156 l0_0 a1).f2).length c102_2) ((rd_T156 l0_0 a1).f2)) := ⟨by (with_reducible repeat (first | apply Kd.V_alloc | apply Kd.V_drewN | apply Kd.V_drew)); exact Kd.V_mono (Kd.V_far (p := ⟨gb103, 4, none⟩) (Kd.V_far (p := ⟨gb103, 3, none⟩) (Kd.V_far (p := ⟨gb103, 2, none⟩) (Kd.V_far (p := ⟨gb103, 1, none⟩) (Kd.V_far (p := ⟨gb103, 0, none⟩) (Kd.V_mono HL102_2.o (fun k_ hk => (⟨hk, hk.2⟩ : _ ∧ k_ ≠ gb103))) (fun _ hk => hk.2) (.int .i64 ((rd_T156 l0_0 a1).f0))) (fun _ hk => hk.2) (.slice A102_1 ((rd_T156 l0_0 a1).f1).length c102_1)) (fun _ hk => hk.2) (.slice A102_2 ((rd_T156 l0_0 a1).f2).length c102_2)) (fun _ hk => hk.2) (.int .i64 ((rd_T156 l0_0 a1).f3))) (fun _ hk => hk.2) (.int .i64 ((rd_T156 l0_0 a1).f4))) (fun _ hk => ⟨hk.1.1.1, ⟨hk.1.1.2, hk.1.2⟩⟩)⟩
        have n3_ : J0 ((((((w42.setCell ⟨gb103, 0, none⟩ (.int .i64 ((rd_T156 l0_0 a1).f0))).setCell ⟨gb103, 1, none⟩ (.slice A102_1 ((rd_T156 l0_0 a1).f1).length c102_1)).setCell ⟨gb103, 2, none⟩ (.slice A102_2 ((rd_T156 l0_0 a1).f2).length c102_2)).setCell ⟨gb103, 3, none⟩ (.int .i64 ((rd_T156 l0_0 a1).f3))).setCell ⟨gb103, 4, none⟩ (.int .i64 ((rd_T156 l0_0 a1).f4))).heap[gb101]? = some (.cells #[.slice (some ad102) l0_0.length c0_0] 29 (0, 0))) := ⟨by (with_reducible repeat (first | refine blk_drewN ?_ _ | refine blk_drew ?_ | refine blk_alloc ?_ _)); refine blk_far ?_ NB101_103.o _; (with_reducible repeat (first | refine blk_drewN ?_ _ | refine blk_drew ?_ | refine blk_alloc ?_ _)); refine blk_far ?_ NB101_103.o _; (with_reducible repeat (first | refine blk_drewN ?_ _ | refine blk_drew ?_ | refine blk_alloc ?_ _)); refine blk_far ?_ NB101_103.o _; (with_reducible repeat (first | refine blk_drewN ?_ _ | refine blk_drew ?_ | refine blk_alloc ?_ _)); refine blk_far ?_ NB101_103.o _; (with_reducible repeat (first | refine blk_drewN ?_ _ | refine blk_drew ?_ | refine blk_alloc ?_ _)); refine blk_far ?_ NB101_103.o _; (with_reducible repeat (first | refine blk_drewN ?_ _ | refine blk_drew ?_ | refine blk_alloc ?_ _)); exact BK101.o⟩
        have n4_ : J0 ((((((w42.setCell ⟨gb103, 0, none⟩ (.int .i64 ((rd_T156 l0_0 a1).f0))).setCell ⟨gb103, 1, none⟩ (.slice A102_1 ((rd_T156 l0_0 a1).f1).length c102_1)).setCell ⟨gb103, 2, none⟩ (.slice A102_2 ((rd_T156 l0_0 a1).f2).length c102_2)).setCell ⟨gb103, 3, none⟩ (.int .i64 ((rd_T156 l0_0 a1).f3))).setCell ⟨gb103, 4, none⟩ (.int .i64 ((rd_T156 l0_0 a1).f4))).heap[gb103]? = some (.cells #[.int .i64 ((rd_T156 l0_0 a1).f0), .slice A102_1 ((rd_T156 l0_0 a1).f1).length c102_1, .slice A102_2 ((rd_T156 l0_0 a1).f2).length c102_2, .int .i64 ((rd_T156 l0_0 a1).f3), .int .i64 ((rd_T156 l0_0 a1).f4)] 156 (0, 0))) := ⟨by (with_reducible repeat (first | refine blk_drewN ?_ _ | refine blk_drew ?_ | refine blk_alloc ?_ _)); refine blk_put (cs := #[.int .i64 ((rd_T156 l0_0 a1).f0), .slice A102_1 ((rd_T156 l0_0 a1).f1).length c102_1, .slice A102_2 ((rd_T156 l0_0 a1).f2).length c102_2, .int .i64 ((rd_T156 l0_0 a1).f3), .int .i64 0]) ?_ 4 _ rfl; (with_reducible repeat (first | refine blk_drewN ?_ _ | refine blk_drew ?_ | refine blk_alloc ?_ _)); refine blk_put (cs := #[.int .i64 ((rd_T156 l0_0 a1).f0), .slice A102_1 ((rd_T156 l0_0 a1).f1).length c102_1, .slice A102_2 ((rd_T156 l0_0 a1).f2).length c102_2, .int .i64 0, .int .i64 0]) ?_ 3 _ rfl; (with_reducible repeat (first | refine blk_drewN ?_ _ | refine blk_drew ?_ | refine blk_alloc ?_ _)); refine blk_put (cs := #[.int .i64 ((rd_T156 l0_0 a1).f0), .slice A102_1 ((rd_T156 l0_0 a1).f1).length c102_1, .slice none 0 0, .int .i64 0, .int .i64 0]) ?_ 2 _ rfl; (with_reducible repeat (first | refine blk_drewN ?_ _ | refine blk_drew ?_ | refine blk_alloc ?_ _)); refine blk_put (cs := #[.int .i64 ((rd_T156 l0_0 a1).f0), .slice none 0 0, .slice none 0 0, .int .i64 0, .int .i64 0]) ?_ 1 _ rfl; (with_reducible repeat (first | refine blk_drewN ?_ _ | refine blk_drew ?_ | refine blk_alloc ?_ _)); refine blk_put (cs := #[.int .i64 0, .slice none 0 0, .slice none 0 0, .int .i64 0, .int .i64 0]) ?_ 0 _ rfl; (with_reducible repeat (first | refine blk_drewN ?_ _ | refine blk_drew ?_ | refine blk_alloc ?_ _)); exact BK103.o⟩
        have n5_ : J0 (Below w.heap.size w (((((w42.setCell ⟨gb103, 0, none⟩ (.int .i64 ((rd_T156 l0_0 a1).f0))).setCell ⟨gb103, 1, none⟩ (.slice A102_1 ((rd_T156 l0_0 a1).f1).length c102_1)).setCell ⟨gb103, 2, none⟩ (.slice A102_2 ((rd_T156 l0_0 a1).f2).length c102_2)).setCell ⟨gb103, 3, none⟩ (.int .i64 ((rd_T156 l0_0 a1).f3))).setCell ⟨gb103, 4, none⟩ (.int .i64 ((rd_T156 l0_0 a1).f4)))) := ⟨be2_ HB.o GE101.o GE103.o⟩
        (try clear HO0_0)
        (try clear HL102_1)
        (try clear HL102_2)
        (try clear BK101)
        (try clear BK103)
        (try clear HB)
        generalize (((((w42.setCell ⟨gb103, 0, none⟩ (.int .i64 ((rd_T156 l0_0 a1).f0))).setCell ⟨gb103, 1, none⟩ (.slice A102_1 ((rd_T156 l0_0 a1).f1).length c102_1)).setCell ⟨gb103, 2, none⟩ (.slice A102_2 ((rd_T156 l0_0 a1).f2).length c102_2)).setCell ⟨gb103, 3, none⟩ (.int .i64 ((rd_T156 l0_0 a1).f3))).setCell ⟨gb103, 4, none⟩ (.int .i64 ((rd_T156 l0_0 a1).f4))) = w45 at n0_ n1_ n2_ n3_ n4_ n5_ ⊢
        have HO0_0 := n0_; have HL102_1 := n1_; have HL102_2 := n2_; have BK101 := n3_; have BK103 := n4_; have HB := n5_; clear n0_ n1_ n2_ n3_ n4_ n5_; replace HO0_0 := q_ (Kd.V_drew HO0_0.o); replace HL102_1 := q_ (Kd.V_drew HL102_1.o); replace HL102_2 := q_ (Kd.V_drew HL102_2.o); replace BK101 := q_ (blk_drew BK101.o); replace BK103 := q_ (blk_drew BK103.o); replace HB := q_ (below_drew1 HB.o)
        have p104 : 0 ≤ (0 : Int) := (by omega)
        have q104 : 0 < (((rd_T156 l0_0 a1).f2).length : Int) := of_decide_eq_true as_
        obtain ⟨ad104, e104, hx104_0⟩ := Kd.at_int ((Kd.V_reads' HL102_2.o).2.2) 0 p104 q104
        cases e104
        have qi104 : (0 < ((rd_T156 l0_0 a1).f2).length) = True := eq_true (by omega)
        (try rw [show ((0 : Int)).toNat = 0 from rfl] at hx104_0)
        (try rw [Addr.add_zero'] at hx104_0)
        replace p104 := eq_true p104; replace q104 := eq_true q104
        refine start_ (n := 7) (S := fun w' => w'.cell? ⟨gb101, 0, none⟩ = some (.slice (some ad102) l0_0.length c0_0) ∧ w'.cell? ⟨gb103, 0, none⟩ = some (.int .i64 ((rd_T156 l0_0 a1).f0)) ∧ w'.cell? ⟨gb103, 1, none⟩ = some (.slice A102_1 ((rd_T156 l0_0 a1).f1).length c102_1) ∧ w'.cell? ⟨gb103, 2, none⟩ = some (.slice (some ad104) ((rd_T156 l0_0 a1).f2).length c102_2) ∧ w'.cell? ⟨gb103, 3, none⟩ = some (.int .i64 ((rd_T156 l0_0 a1).f3)) ∧ w'.cell? ⟨gb103, 4, none⟩ = some (.int .i64 ((rd_T156 l0_0 a1).f4)) ∧ w'.cell? ad104 = some (.int .i64 (rd ((rd_T156 l0_0 a1).f2) 0))) (ds := []) (bb 7 0) (by kernel_rfl) rfl rfl ⟨(blk_cell BK101.o 0).trans rfl, (blk_cell BK103.o 0).trans rfl, (blk_cell BK103.o 1).trans rfl, (blk_cell BK103.o 2).trans rfl, (blk_cell BK103.o 3).trans rfl, (blk_cell BK103.o 4).trans rfl, hx104_0⟩ (fun hHeld => ?_)
        generalize w45.drew = w46 at HO0_0 HL102_1 HL102_2 BK101 BK103 HB hx104_0 hHeld ⊢
        refine pk_ 1 22 2 ?_; refine tk_ 0 21 3 hHeld ?_; refine tk_ 2 23 7 hHeld ?_; refine pk_ 3 24 15 ?_; refine tk_ 4 25 31 hHeld ?_
        refine one_ (i := 5) (N := some 26) (bb 7 63) rfl rfl (by kernel_rfl) (by decide) (fun K hK => ?_)
        refine gs_ Try.func68 #[.agg #[.slice (some ad102) l0_0.length c0_0], .int .i64 (rd ((rd_T156 l0_0 a1).f2) 0)] ?_
        with_reducible refine (impl_Rx_nullable.calls k _ _ l0_0 (rd ((rd_T156 l0_0 a1).f2) 0) false _ ?side1 ?side2 A19.o).mono ?_
        (case side1 => repeat (first | exact (Kd.V_reads' HO0_0.o).2.2 | (with_reducible refine Kd.C_alloc ?_ _) | (with_reducible refine Kd.C_drewN ?_ _) | (with_reducible refine Kd.C_drew ?_)))
        (case side2 => exact (Kd.V_reads' HO0_0.o).2.1)
        rintro e w47 ⟨rfl, hb⟩
        have HS6_ := (hb.cell (World.block_lt_of_cell? _ _ (hHeld.2.2.2.2.2.2))).trans (hHeld.2.2.2.2.2.2); refine ⟨_, rfl, ?_⟩
        replace HO0_0 := q_ (Kd.V_below (by (with_reducible repeat (first | apply Kd.V_alloc | apply Kd.V_drewN | apply Kd.V_drew)); exact HO0_0.o) hb)
        replace HL102_1 := q_ (Kd.V_below (by (with_reducible repeat (first | apply Kd.V_alloc | apply Kd.V_drewN | apply Kd.V_drew)); exact HL102_1.o) hb)
        replace HL102_2 := q_ (Kd.V_below (by (with_reducible repeat (first | apply Kd.V_alloc | apply Kd.V_drewN | apply Kd.V_drew)); exact HL102_2.o) hb)
        replace BK101 := lb_ BK101 hb; replace BK103 := lb_ BK103 hb; replace HB := sb2_ HB GE101 GE103 hb
        (try clear hb)
        (try clear hb2)
        (try clear hk)
        (try clear hi)
        refine hK.out _ _ ⟨(blk_cell BK101.o 0).trans rfl, (blk_cell BK103.o 0).trans rfl, (blk_cell BK103.o 1).trans rfl, (blk_cell BK103.o 2).trans rfl, (blk_cell BK103.o 3).trans rfl, (blk_cell BK103.o 4).trans rfl, HS6_⟩ (fun hHeld => ?_)
        clear hK K; refine no_ (some 26) ?_; refine pk_ 6 27 127 ?_
        refine done_ (by kernel_rfl) ?_
        try go_wp2
        replace HO0_0 := q_ (Kd.V_drew HO0_0.o); replace HL102_1 := q_ (Kd.V_drew HL102_1.o); replace HL102_2 := q_ (Kd.V_drew HL102_2.o); replace BK101 := q_ (blk_drew BK101.o); replace BK103 := q_ (blk_drew BK103.o); replace HB := q_ (below_drew1 HB.o)
        have p106 : 0 ≤ (0 : Int) := (by omega)
        have q106 : 0 < (((rd_T156 l0_0 a1).f2).length : Int) := of_decide_eq_true as_
        obtain ⟨ad106, e106, hx106_0⟩ := Kd.at_int ((Kd.V_reads' HL102_2.o).2.2) 0 p106 q106
        obtain rfl : ad104 = ad106 := (by injection e106)
        have qi106 : (0 < ((rd_T156 l0_0 a1).f2).length) = True := eq_true (by omega)
        (try rw [show ((0 : Int)).toNat = 0 from rfl] at hx106_0)
        (try rw [Addr.add_zero'] at hx106_0)
        replace p106 := eq_true p106; replace q106 := eq_true q106
        refine start_ (n := 7) (S := fun w' => w'.cell? ⟨gb101, 0, none⟩ = some (.slice (some ad102) l0_0.length c0_0) ∧ w'.cell? ⟨gb103, 0, none⟩ = some (.int .i64 ((rd_T156 l0_0 a1).f0)) ∧ w'.cell? ⟨gb103, 1, none⟩ = some (.slice A102_1 ((rd_T156 l0_0 a1).f1).length c102_1) ∧ w'.cell? ⟨gb103, 2, none⟩ = some (.slice (some ad104) ((rd_T156 l0_0 a1).f2).length c102_2) ∧ w'.cell? ⟨gb103, 3, none⟩ = some (.int .i64 ((rd_T156 l0_0 a1).f3)) ∧ w'.cell? ⟨gb103, 4, none⟩ = some (.int .i64 ((rd_T156 l0_0 a1).f4)) ∧ w'.cell? ad104 = some (.int .i64 (rd ((rd_T156 l0_0 a1).f2) 0))) (ds := []) (bb 7 0) (by kernel_rfl) rfl rfl ⟨(blk_cell BK101.o 0).trans rfl, (blk_cell BK103.o 0).trans rfl, (blk_cell BK103.o 1).trans rfl, (blk_cell BK103.o 2).trans rfl, (blk_cell BK103.o 3).trans rfl, (blk_cell BK103.o 4).trans rfl, hx106_0⟩ (fun hHeld => ?_)
        generalize w47.drew = w48 at HO0_0 HL102_1 HL102_2 BK101 BK103 HB hx106_0 hHeld ⊢
        refine pk_ 1 29 2 ?_; refine tk_ 0 28 3 hHeld ?_; refine tk_ 2 30 7 hHeld ?_; refine pk_ 3 31 15 ?_; refine tk_ 4 32 31 hHeld ?_
        refine one_ (i := 5) (N := some 33) (bb 7 63) rfl rfl (by kernel_rfl) (by decide) (fun K hK => ?_)
        refine gs_ Try.func71 #[.agg #[.slice (some ad102) l0_0.length c0_0], .int .i64 (rd ((rd_T156 l0_0 a1).f2) 0)] ?_
        with_reducible refine (ih k (by omega) (fun k_ => ((P0_0_ k_ ∨ w.heap.size ≤ k_) ∧ (k_ ≠ gb101 ∧ k_ ≠ gb103))) _ _ l0_0 (rd ((rd_T156 l0_0 a1).f2) 0) t107 _ ?side1 A39.o).mono ?_
        (case side1 => exact HO0_0.o)
        rintro e w49 ⟨v108, rfl, ho0, hb⟩
        have HS6_ := (hb.cell (World.block_lt_of_cell? _ _ (hHeld.2.2.2.2.2.2))).trans (hHeld.2.2.2.2.2.2); refine ⟨_, rfl, ?_⟩
        have HO109 := q_ (Kd.V_lower (Kd.V_mono (ok' := fun k_ => (P0_0_ k_ ∨ w.heap.size ≤ k_) ∧ k_ ≠ gb101 ∧ k_ ≠ gb103) ho0 (fun k_ hk_ => ⟨Or.elim hk_ (fun hs_ => hs_.1) (fun hn_ => (.inr (Nat.le_trans (below_size (be2_ HB.o GE101.o GE103.o)) hn_))), Or.elim hk_ (fun hs_ => hs_.2.1) (fun hn_ => (Kd.freshB (g := gb101) (o := .cells #[.slice (some ad102) l0_0.length c0_0] 29 (0, 0)) (bk_ BK101.o) k_ hn_)), Or.elim hk_ (fun hs_ => hs_.2.2) (fun hn_ => (Kd.freshB (g := gb103) (o := .cells #[.int .i64 ((rd_T156 l0_0 a1).f0), .slice A102_1 ((rd_T156 l0_0 a1).f1).length c102_1, .slice (some ad104) ((rd_T156 l0_0 a1).f2).length c102_2, .int .i64 ((rd_T156 l0_0 a1).f3), .int .i64 ((rd_T156 l0_0 a1).f4)] 156 (0, 0)) (bk_ BK103.o) k_ hn_))⟩)) (below_size (be2_ HB.o GE101.o GE103.o)))
        replace HO0_0 := q_ (Kd.V_below (by (with_reducible repeat (first | apply Kd.V_alloc | apply Kd.V_drewN | apply Kd.V_drew)); exact HO0_0.o) hb)
        replace HL102_1 := q_ (Kd.V_below (by (with_reducible repeat (first | apply Kd.V_alloc | apply Kd.V_drewN | apply Kd.V_drew)); exact HL102_1.o) hb)
        replace HL102_2 := q_ (Kd.V_below (by (with_reducible repeat (first | apply Kd.V_alloc | apply Kd.V_drewN | apply Kd.V_drew)); exact HL102_2.o) hb)
        replace BK101 := lb_ BK101 hb; replace BK103 := lb_ BK103 hb; replace HB := sb2_ HB GE101 GE103 hb
        (try clear hb)
        (try clear hb2)
        (try clear hk)
        (try clear hi)
        (try clear ho0)
        refine hK.out _ _ ⟨(blk_cell BK101.o 0).trans rfl, (blk_cell BK103.o 0).trans rfl, (blk_cell BK103.o 1).trans rfl, (blk_cell BK103.o 2).trans rfl, (blk_cell BK103.o 3).trans rfl, (blk_cell BK103.o 4).trans rfl, HS6_⟩ (fun hHeld => ?_)
        clear hK K; refine no_ (some 33) ?_; refine pk_ 6 4 127 ?_
        refine done_ (by kernel_rfl) ?_
        try go_wp2
        go_ret
        exact ⟨_, rt_, by (with_reducible repeat (first | apply Kd.V_alloc | apply Kd.V_drewN | apply Kd.V_drew)); exact Kd.V_mono HO109.o (fun _ hk => hk.1), be2_ HB.o GE101.o GE103.o⟩
      ·rw [if_neg c18] at H
       exact absurd H (by simp)
     ·rw [if_neg c17] at H
      have c17b0 : (((rd_T156 l0_0 a1).f0) == 3) = false := beq_eq_false_iff_ne.mpr c17
      have c17b1 : (((rd_T156 l0_0 a1).f0) != 3) = true := bne_iff_ne.mpr c17
      by_cases c50 : ((rd_T156 l0_0 a1).f0) = 4
      ·rw [if_pos c50] at H
       have c50b0 : (((rd_T156 l0_0 a1).f0) == 4) = true := beq_iff_eq.mpr c50
       have c50b1 : (((rd_T156 l0_0 a1).f0) != 4) = false := bne_eq_false_iff_eq.mpr c50
       clear c50
       by_cases c51 : 0 < (((rd_T156 l0_0 a1).f2).length : Int)
       ·rw [if_pos c51] at H; have c51b0 := dt_ c51
        have c51b1 : decide (0 < ((rd_T156 l0_0 a1).f2).length) = true := decide_eq_true (by omega)
        clear c51; obtain ⟨t122, A52, H⟩ := ob_ H
        by_cases c53 : 1 < (((rd_T156 l0_0 a1).f2).length : Int)
        ·rw [if_pos c53] at H; have c53b0 := dt_ c53
         have c53b1 : decide (1 < ((rd_T156 l0_0 a1).f2).length) = true := decide_eq_true (by omega)
         clear c53; obtain ⟨t126, A54, H⟩ := ob_ H; obtain ⟨t129, A55, H⟩ := ob_ H; obtain rfl := Option.some.inj H
         go_enter Try.func71, Try.ntmps71
         try go_wp2_with (first | ((with_reducible refine gate_dst (N := 2) rfl ?_); refine bx_ 2 #[.slice A0_0 l0_0.length c0_0] 29 ?_; intro gb101 hg w56 hbox hb; have BK101 := q_ (hbox); have GE101 := ge_ hg HB; replace HO0_0 := q_ (Kd.V_below (Kd.V_elderB (by (with_reducible repeat (first | apply Kd.V_alloc | apply Kd.V_drewN | apply Kd.V_drew)); exact HO0_0.o) gb101 (Nat.le_of_eq hg.symm)) hb); replace HB := sb_ HB hb; clear hb hbox hg; obtain ⟨hcz57_0, hfz57_0⟩ := d1_ BK101; have p102 : 0 ≤ (a1 : Int) := of_decide_eq_true as_; have q102 : a1 < (l0_0.length : Int) := of_decide_eq_true as_; obtain ⟨ad102, A102_1, c102_1, A102_2, c102_2, e102, hx102_0, hx102_1, hx102_2, hx102_3, hx102_4, hl102_1, hi102_1, hl102_2, hi102_2⟩ := at_T156 (Kd.V_reads' HO0_0.o).2.2 a1 p102 q102; cases e102; obtain ⟨ce102, hce102, hMe102, hcc102⟩ := Kd.V_get HO0_0.o z156 a1 p102 (by first | exact q102 | exact of_decide_eq_true as_ | (have e_ := (Kd.V_reads' HO0_0.o).1; omega)); obtain ⟨ua102_1, uc102_1, ua102_2, uc102_2, rfl, ul102_1, ge102_1, ul102_2, ge102_2⟩ := k156_openF hMe102; have hv102_1 := hcc102 1 _ rfl; rw [add_field _ _ 1 (by omega)] at hv102_1; replace hv102_1 := Option.some.inj (hv102_1.symm.trans hx102_1); injection hv102_1 with hva_ hvn_ hvc_; rw [hva_] at ge102_1; rw [hvc_] at ul102_1; have HL102_1 := q_ (show Kd.V k103 103 _ w.heap.size _ _ ((rd_T156 l0_0 a1).f1) from Kd.V_mk ul102_1 ge102_1); clear hva_ hvn_ hvc_ ge102_1 ul102_1; have hv102_2 := hcc102 2 _ rfl; rw [add_field _ _ 2 (by omega)] at hv102_2; replace hv102_2 := Option.some.inj (hv102_2.symm.trans hx102_2); injection hv102_2 with hva_ hvn_ hvc_; rw [hva_] at ge102_2; rw [hvc_] at ul102_2; have HL102_2 := q_ (show Kd.V (Kd.int .i64) 2 _ w.heap.size _ _ ((rd_T156 l0_0 a1).f2) from Kd.V_mk ul102_2 ge102_2); clear hva_ hvn_ hvc_ ge102_2 ul102_2; clear hcc102 hce102; have HR102_1 := q_ hi102_1; have HC102_1 := q_ hl102_1; clear hi102_1 hl102_1; have HR102_2 := q_ hi102_2; have HC102_2 := q_ hl102_2; clear hi102_2 hl102_2; replace p102 := eq_true p102; replace q102 := eq_true q102) | ((with_reducible refine gate_dst (N := 5) rfl ?_); refine bx_ 5 #[.int .i64 0, .slice none 0 0, .slice none 0 0, .int .i64 0, .int .i64 0] 156 ?_; intro gb103 hg w58 hbox hb; have BK103 := q_ (hbox); have GE103 := ge1_ hg HB GE101; have NB101_103 := nl_ hg BK101; have NB103_101 := ng_ hg BK101; replace HO0_0 := q_ (Kd.V_below (Kd.V_elderB (by (with_reducible repeat (first | apply Kd.V_alloc | apply Kd.V_drewN | apply Kd.V_drew)); exact HO0_0.o) gb103 (Nat.le_of_eq hg.symm)) hb); replace HL102_1 := q_ (Kd.V_below (Kd.V_elderB (by (with_reducible repeat (first | apply Kd.V_alloc | apply Kd.V_drewN | apply Kd.V_drew)); exact HL102_1.o) gb103 (Nat.le_of_eq hg.symm)) hb); replace HL102_2 := q_ (Kd.V_below (Kd.V_elderB (by (with_reducible repeat (first | apply Kd.V_alloc | apply Kd.V_drewN | apply Kd.V_drew)); exact HL102_2.o) gb103 (Nat.le_of_eq hg.symm)) hb); replace BK101 := lb_ BK101 hb; replace HR102_1 := q_ (Kd.C_below (by repeat (first | (with_reducible exact HR102_1.o) | (with_reducible refine Kd.C_alloc ?_ _) | (with_reducible refine Kd.C_drewN ?_ _) | (with_reducible refine Kd.C_drew ?_) | exact HR102_1.o)) hb); replace HR102_2 := q_ (Kd.C_below (by repeat (first | (with_reducible exact HR102_2.o) | (with_reducible refine Kd.C_alloc ?_ _) | (with_reducible refine Kd.C_drewN ?_ _) | (with_reducible refine Kd.C_drew ?_) | exact HR102_2.o)) hb); replace HB := sb1_ HB GE101 hb; clear hb hbox hg; have hnb59 := NB103_101.o; have hnc59 := NB101_103.o; obtain ⟨hcz60_0, hcz60_1, hcz60_2, hcz60_3, hcz60_4, hfz60_0, hfz60_1, hfz60_2, hfz60_3, hfz60_4⟩ := d5_ BK103))
         have n0_ : J0 (Kd.V k156 156 (((((w58.setCell ⟨gb103, 0, none⟩ (.int .i64 ((rd_T156 l0_0 a1).f0))).setCell ⟨gb103, 1, none⟩ (.slice A102_1 ((rd_T156 l0_0 a1).f1).length c102_1)).setCell ⟨gb103, 2, none⟩ (.slice A102_2 ((rd_T156 l0_0 a1).f2).length c102_2)).setCell ⟨gb103, 3, none⟩ (.int .i64 ((rd_T156 l0_0 a1).f3))).setCell ⟨gb103, 4, none⟩ (.int .i64 ((rd_T156 l0_0 a1).f4))) w.heap.size (fun k_ => (P0_0_ k_ ∨ w.heap.size ≤ k_) ∧ k_ ≠ gb101 ∧ k_ ≠ gb103) (.slice (some ad102) l0_0.length c0_0) l0_0) := ⟨by (with_reducible repeat (first | apply Kd.V_alloc | apply Kd.V_drewN | apply Kd.V_drew)); exact Kd.V_mono (Kd.V_far (p := ⟨gb103, 4, none⟩) (Kd.V_far (p := ⟨gb103, 3, none⟩) (Kd.V_far (p := ⟨gb103, 2, none⟩) (Kd.V_far (p := ⟨gb103, 1, none⟩) (Kd.V_far (p := ⟨gb103, 0, none⟩) (Kd.V_mono HO0_0.o (fun k_ hk => (⟨hk, hk.2⟩ : _ ∧ k_ ≠ gb103))) (fun _ hk => hk.2) (.int .i64 ((rd_T156 l0_0 a1).f0))) (fun _ hk => hk.2) (.slice A102_1 ((rd_T156 l0_0 a1).f1).length c102_1)) (fun _ hk => hk.2) (.slice A102_2 ((rd_T156 l0_0 a1).f2).length c102_2)) (fun _ hk => hk.2) (.int .i64 ((rd_T156 l0_0 a1).f3))) (fun _ hk => hk.2) (.int .i64 ((rd_T156 l0_0 a1).f4))) (fun _ hk => ⟨hk.1.1.1, ⟨hk.1.1.2, hk.1.2⟩⟩)⟩
         have n1_ : J0 (Kd.V k103 103 (((((w58.setCell ⟨gb103, 0, none⟩ (.int .i64 ((rd_T156 l0_0 a1).f0))).setCell ⟨gb103, 1, none⟩ (.slice A102_1 ((rd_T156 l0_0 a1).f1).length c102_1)).setCell ⟨gb103, 2, none⟩ (.slice A102_2 ((rd_T156 l0_0 a1).f2).length c102_2)).setCell ⟨gb103, 3, none⟩ (.int .i64 ((rd_T156 l0_0 a1).f3))).setCell ⟨gb103, 4, none⟩ (.int .i64 ((rd_T156 l0_0 a1).f4))) w.heap.size (fun k_ => (P0_0_ k_ ∨ w.heap.size ≤ k_) ∧ k_ ≠ gb101 ∧ k_ ≠ gb103) (.slice A102_1 ((rd_T156 l0_0 a1).f1).length c102_1) ((rd_T156 l0_0 a1).f1)) := ⟨by (with_reducible repeat (first | apply Kd.V_alloc | apply Kd.V_drewN | apply Kd.V_drew)); exact Kd.V_mono (Kd.V_far (p := ⟨gb103, 4, none⟩) (Kd.V_far (p := ⟨gb103, 3, none⟩) (Kd.V_far (p := ⟨gb103, 2, none⟩) (Kd.V_far (p := ⟨gb103, 1, none⟩) (Kd.V_far (p := ⟨gb103, 0, none⟩) (Kd.V_mono HL102_1.o (fun k_ hk => (⟨hk, hk.2⟩ : _ ∧ k_ ≠ gb103))) (fun _ hk => hk.2) (.int .i64 ((rd_T156 l0_0 a1).f0))) (fun _ hk => hk.2) (.slice A102_1 ((rd_T156 l0_0 a1).f1).length c102_1)) (fun _ hk => hk.2) (.slice A102_2 ((rd_T156 l0_0 a1).f2).length c102_2)) (fun _ hk => hk.2) (.int .i64 ((rd_T156 l0_0 a1).f3))) (fun _ hk => hk.2) (.int .i64 ((rd_T156 l0_0 a1).f4))) (fun _ hk => ⟨hk.1.1.1, ⟨hk.1.1.2, hk.1.2⟩⟩)⟩
         have n2_ : J0 (Kd.V (Kd.int .i64) 2 (((((w58.setCell ⟨gb103, 0, none⟩ (.int .i64 ((rd_T156 l0_0 a1).f0))).setCell ⟨gb103, 1, none⟩ (.slice A102_1 ((rd_T156 l0_0 a1).f1).length c102_1)).setCell ⟨gb103, 2, none⟩ (.slice A102_2 ((rd_T156 l0_0 a1).f2).length c102_2)).setCell ⟨gb103, 3, none⟩ (.int .i64 ((rd_T156 l0_0 a1).f3))).setCell ⟨gb103, 4, none⟩ (.int .i64 ((rd_T156 l0_0 a1).f4))) w.heap.size (fun k_ => (P0_0_ k_ ∨ w.heap.size ≤ k_) ∧ k_ ≠ gb101 ∧ k_ ≠ gb103) (.slice A102_2 ((rd_T156 l0_0 a1).f2).length c102_2) ((rd_T156 l0_0 a1).f2)) := ⟨by (with_reducible repeat (first | apply Kd.V_alloc | apply Kd.V_drewN | apply Kd.V_drew)); exact Kd.V_mono (Kd.V_far (p := ⟨gb103, 4, none⟩) (Kd.V_far (p := ⟨gb103, 3, none⟩) (Kd.V_far (p := ⟨gb103, 2, none⟩) (Kd.V_far (p := ⟨gb103, 1, none⟩) (Kd.V_far (p := ⟨gb103, 0, none⟩) (Kd.V_mono HL102_2.o (fun k_ hk => (⟨hk, hk.2⟩ : _ ∧ k_ ≠ gb103))) (fun _ hk => hk.2) (.int .i64 ((rd_T156 l0_0 a1).f0))) (fun _ hk => hk.2) (.slice A102_1 ((rd_T156 l0_0 a1).f1).length c102_1)) (fun _ hk => hk.2) (.slice A102_2 ((rd_T156 l0_0 a1).f2).length c102_2)) (fun _ hk => hk.2) (.int .i64 ((rd_T156 l0_0 a1).f3))) (fun _ hk => hk.2) (.int .i64 ((rd_T156 l0_0 a1).f4))) (fun _ hk => ⟨hk.1.1.1, ⟨hk.1.1.2, hk.1.2⟩⟩)⟩
         have n3_ : J0 ((((((w58.setCell ⟨gb103, 0, none⟩ (.int .i64 ((rd_T156 l0_0 a1).f0))).setCell ⟨gb103, 1, none⟩ (.slice A102_1 ((rd_T156 l0_0 a1).f1).length c102_1)).setCell ⟨gb103, 2, none⟩ (.slice A102_2 ((rd_T156 l0_0 a1).f2).length c102_2)).setCell ⟨gb103, 3, none⟩ (.int .i64 ((rd_T156 l0_0 a1).f3))).setCell ⟨gb103, 4, none⟩ (.int .i64 ((rd_T156 l0_0 a1).f4))).heap[gb101]? = some (.cells #[.slice (some ad102) l0_0.length c0_0] 29 (0, 0))) := ⟨by (with_reducible repeat (first | refine blk_drewN ?_ _ | refine blk_drew ?_ | refine blk_alloc ?_ _)); refine blk_far ?_ NB101_103.o _; (with_reducible repeat (first | refine blk_drewN ?_ _ | refine blk_drew ?_ | refine blk_alloc ?_ _)); refine blk_far ?_ NB101_103.o _; (with_reducible repeat (first | refine blk_drewN ?_ _ | refine blk_drew ?_ | refine blk_alloc ?_ _)); refine blk_far ?_ NB101_103.o _; (with_reducible repeat (first | refine blk_drewN ?_ _ | refine blk_drew ?_ | refine blk_alloc ?_ _)); refine blk_far ?_ NB101_103.o _; (with_reducible repeat (first | refine blk_drewN ?_ _ | refine blk_drew ?_ | refine blk_alloc ?_ _)); refine blk_far ?_ NB101_103.o _; (with_reducible repeat (first | refine blk_drewN ?_ _ | refine blk_drew ?_ | refine blk_alloc ?_ _)); exact BK101.o⟩
         have n4_ : J0 ((((((w58.setCell ⟨gb103, 0, none⟩ (.int .i64 ((rd_T156 l0_0 a1).f0))).setCell ⟨gb103, 1, none⟩ (.slice A102_1 ((rd_T156 l0_0 a1).f1).length c102_1)).setCell ⟨gb103, 2, none⟩ (.slice A102_2 ((rd_T156 l0_0 a1).f2).length c102_2)).setCell ⟨gb103, 3, none⟩ (.int .i64 ((rd_T156 l0_0 a1).f3))).setCell ⟨gb103, 4, none⟩ (.int .i64 ((rd_T156 l0_0 a1).f4))).heap[gb103]? = some (.cells #[.int .i64 ((rd_T156 l0_0 a1).f0), .slice A102_1 ((rd_T156 l0_0 a1).f1).length c102_1, .slice A102_2 ((rd_T156 l0_0 a1).f2).length c102_2, .int .i64 ((rd_T156 l0_0 a1).f3), .int .i64 ((rd_T156 l0_0 a1).f4)] 156 (0, 0))) := ⟨by (with_reducible repeat (first | refine blk_drewN ?_ _ | refine blk_drew ?_ | refine blk_alloc ?_ _)); refine blk_put (cs := #[.int .i64 ((rd_T156 l0_0 a1).f0), .slice A102_1 ((rd_T156 l0_0 a1).f1).length c102_1, .slice A102_2 ((rd_T156 l0_0 a1).f2).length c102_2, .int .i64 ((rd_T156 l0_0 a1).f3), .int .i64 0]) ?_ 4 _ rfl; (with_reducible repeat (first | refine blk_drewN ?_ _ | refine blk_drew ?_ | refine blk_alloc ?_ _)); refine blk_put (cs := #[.int .i64 ((rd_T156 l0_0 a1).f0), .slice A102_1 ((rd_T156 l0_0 a1).f1).length c102_1, .slice A102_2 ((rd_T156 l0_0 a1).f2).length c102_2, .int .i64 0, .int .i64 0]) ?_ 3 _ rfl; (with_reducible repeat (first | refine blk_drewN ?_ _ | refine blk_drew ?_ | refine blk_alloc ?_ _)); refine blk_put (cs := #[.int .i64 ((rd_T156 l0_0 a1).f0), .slice A102_1 ((rd_T156 l0_0 a1).f1).length c102_1, .slice none 0 0, .int .i64 0, .int .i64 0]) ?_ 2 _ rfl; (with_reducible repeat (first | refine blk_drewN ?_ _ | refine blk_drew ?_ | refine blk_alloc ?_ _)); refine blk_put (cs := #[.int .i64 ((rd_T156 l0_0 a1).f0), .slice none 0 0, .slice none 0 0, .int .i64 0, .int .i64 0]) ?_ 1 _ rfl; (with_reducible repeat (first | refine blk_drewN ?_ _ | refine blk_drew ?_ | refine blk_alloc ?_ _)); refine blk_put (cs := #[.int .i64 0, .slice none 0 0, .slice none 0 0, .int .i64 0, .int .i64 0]) ?_ 0 _ rfl; (with_reducible repeat (first | refine blk_drewN ?_ _ | refine blk_drew ?_ | refine blk_alloc ?_ _)); exact BK103.o⟩
         have n5_ : J0 (Below w.heap.size w (((((w58.setCell ⟨gb103, 0, none⟩ (.int .i64 ((rd_T156 l0_0 a1).f0))).setCell ⟨gb103, 1, none⟩ (.slice A102_1 ((rd_T156 l0_0 a1).f1).length c102_1)).setCell ⟨gb103, 2, none⟩ (.slice A102_2 ((rd_T156 l0_0 a1).f2).length c102_2)).setCell ⟨gb103, 3, none⟩ (.int .i64 ((rd_T156 l0_0 a1).f3))).setCell ⟨gb103, 4, none⟩ (.int .i64 ((rd_T156 l0_0 a1).f4)))) := ⟨be2_ HB.o GE101.o GE103.o⟩
         (try clear HO0_0)
         (try clear HL102_1)
         (try clear HL102_2)
         (try clear BK101)
         (try clear BK103)
         (try clear HB)
         generalize (((((w58.setCell ⟨gb103, 0, none⟩ (.int .i64 ((rd_T156 l0_0 a1).f0))).setCell ⟨gb103, 1, none⟩ (.slice A102_1 ((rd_T156 l0_0 a1).f1).length c102_1)).setCell ⟨gb103, 2, none⟩ (.slice A102_2 ((rd_T156 l0_0 a1).f2).length c102_2)).setCell ⟨gb103, 3, none⟩ (.int .i64 ((rd_T156 l0_0 a1).f3))).setCell ⟨gb103, 4, none⟩ (.int .i64 ((rd_T156 l0_0 a1).f4))) = w61 at n0_ n1_ n2_ n3_ n4_ n5_ ⊢
         have HO0_0 := n0_; have HL102_1 := n1_; have HL102_2 := n2_; have BK101 := n3_; have BK103 := n4_; have HB := n5_; clear n0_ n1_ n2_ n3_ n4_ n5_; replace HO0_0 := q_ (Kd.V_drew HO0_0.o); replace HL102_1 := q_ (Kd.V_drew HL102_1.o); replace HL102_2 := q_ (Kd.V_drew HL102_2.o); replace BK101 := q_ (blk_drew BK101.o); replace BK103 := q_ (blk_drew BK103.o); replace HB := q_ (below_drew1 HB.o)
         have p121 : 0 ≤ (0 : Int) := (by omega)
         have q121 : 0 < (((rd_T156 l0_0 a1).f2).length : Int) := of_decide_eq_true as_
         obtain ⟨ad121, e121, hx121_0⟩ := Kd.at_int ((Kd.V_reads' HL102_2.o).2.2) 0 p121 q121
         cases e121
         have qi121 : (0 < ((rd_T156 l0_0 a1).f2).length) = True := eq_true (by omega)
         (try rw [show ((0 : Int)).toNat = 0 from rfl] at hx121_0)
         (try rw [Addr.add_zero'] at hx121_0)
         replace p121 := eq_true p121; replace q121 := eq_true q121
         have p125 : 0 ≤ (1 : Int) := (by omega)
         have q125 : 1 < (((rd_T156 l0_0 a1).f2).length : Int) := of_decide_eq_true as_
         obtain ⟨ad125, e125, hx125_0⟩ := Kd.at_int ((Kd.V_reads' HL102_2.o).2.2) 1 p125 q125
         obtain rfl : ad121 = ad125 := (by injection e125)
         (try simp only [show (1 : Int).toNat = 1 from rfl, Nat.reduceMul, Nat.reduceEqDiff, Go.Addr.add, ↓reduceIte] at hx125_0)
         have qi125 : (1 < ((rd_T156 l0_0 a1).f2).length) = True := eq_true (by omega)
         (try rw [show ((1 : Int)).toNat = 1 from rfl] at hx125_0)
         replace p125 := eq_true p125; replace q125 := eq_true q125
         refine start_ (n := 14) (S := fun w' => w'.cell? ⟨gb101, 0, none⟩ = some (.slice (some ad102) l0_0.length c0_0) ∧ w'.cell? ⟨gb103, 0, none⟩ = some (.int .i64 ((rd_T156 l0_0 a1).f0)) ∧ w'.cell? ⟨gb103, 1, none⟩ = some (.slice A102_1 ((rd_T156 l0_0 a1).f1).length c102_1) ∧ w'.cell? ⟨gb103, 2, none⟩ = some (.slice (some ad121) ((rd_T156 l0_0 a1).f2).length c102_2) ∧ w'.cell? ⟨gb103, 3, none⟩ = some (.int .i64 ((rd_T156 l0_0 a1).f3)) ∧ w'.cell? ⟨gb103, 4, none⟩ = some (.int .i64 ((rd_T156 l0_0 a1).f4)) ∧ w'.cell? ad121 = some (.int .i64 (rd ((rd_T156 l0_0 a1).f2) 0)) ∧ w'.cell? ⟨ad121.block, ad121.off + 1, none⟩ = some (.int .i64 (rd ((rd_T156 l0_0 a1).f2) 1))) (ds := []) (bb 14 0) (by kernel_rfl) rfl rfl ⟨(blk_cell BK101.o 0).trans rfl, (blk_cell BK103.o 0).trans rfl, (blk_cell BK103.o 1).trans rfl, (blk_cell BK103.o 2).trans rfl, (blk_cell BK103.o 3).trans rfl, (blk_cell BK103.o 4).trans rfl, hx121_0, hx125_0⟩ (fun hHeld => ?_); refine with_tabW impl_Rx_first.tab12 impl_Rx_first.bits12 (fun HT_ HW_ => ?_)
         generalize w61.drew = w62 at HO0_0 HL102_1 HL102_2 BK101 BK103 HB hx121_0 hx125_0 hHeld ⊢
         refine pv_ 1 50 2 HT_.o ?_; refine pv_ 7 56 130 HT_.o ?_; refine tv_ 0 49 131 HT_.o HW_.o hHeld ?_; refine tv_ 2 51 135 HT_.o HW_.o hHeld ?_; refine pv_ 3 52 143 HT_.o ?_; refine tv_ 4 53 159 HT_.o HW_.o hHeld ?_; refine tv_ 6 55 223 HT_.o HW_.o hHeld ?_; refine tv_ 8 57 479 HT_.o HW_.o hHeld ?_; refine pv_ 9 58 991 HT_.o ?_; refine tv_ 10 59 2015 HT_.o HW_.o hHeld ?_
         refine one_ (i := 5) (N := some 54) (bb 14 2047) rfl rfl (one_of HT_.o (by kernel_rfl)) (by decide) (fun K hK => ?_)
         refine gs_ Try.func71 #[.agg #[.slice (some ad102) l0_0.length c0_0], .int .i64 (rd ((rd_T156 l0_0 a1).f2) 0)] ?_
         with_reducible refine (ih k (by omega) (fun k_ => ((P0_0_ k_ ∨ w.heap.size ≤ k_) ∧ (k_ ≠ gb101 ∧ k_ ≠ gb103))) _ _ l0_0 (rd ((rd_T156 l0_0 a1).f2) 0) t122 _ ?side1 A52.o).mono ?_
         (case side1 => exact HO0_0.o)
         rintro e w63 ⟨v123, rfl, ho0, hb⟩
         have HS6_ := (hb.cell (World.block_lt_of_cell? _ _ (hHeld.2.2.2.2.2.2.1))).trans (hHeld.2.2.2.2.2.2.1); have HS7_ := (hb.cell (World.block_lt_of_cell? _ _ (hHeld.2.2.2.2.2.2.2))).trans (hHeld.2.2.2.2.2.2.2); refine ⟨_, rfl, ?_⟩
         have HO124 := q_ (Kd.V_lower (Kd.V_mono (ok' := fun k_ => (P0_0_ k_ ∨ w.heap.size ≤ k_) ∧ k_ ≠ gb101 ∧ k_ ≠ gb103) ho0 (fun k_ hk_ => ⟨Or.elim hk_ (fun hs_ => hs_.1) (fun hn_ => (.inr (Nat.le_trans (below_size (be2_ HB.o GE101.o GE103.o)) hn_))), Or.elim hk_ (fun hs_ => hs_.2.1) (fun hn_ => (Kd.freshB (g := gb101) (o := .cells #[.slice (some ad102) l0_0.length c0_0] 29 (0, 0)) (bk_ BK101.o) k_ hn_)), Or.elim hk_ (fun hs_ => hs_.2.2) (fun hn_ => (Kd.freshB (g := gb103) (o := .cells #[.int .i64 ((rd_T156 l0_0 a1).f0), .slice A102_1 ((rd_T156 l0_0 a1).f1).length c102_1, .slice (some ad121) ((rd_T156 l0_0 a1).f2).length c102_2, .int .i64 ((rd_T156 l0_0 a1).f3), .int .i64 ((rd_T156 l0_0 a1).f4)] 156 (0, 0)) (bk_ BK103.o) k_ hn_))⟩)) (below_size (be2_ HB.o GE101.o GE103.o)))
         replace HO0_0 := q_ (Kd.V_below (by (with_reducible repeat (first | apply Kd.V_alloc | apply Kd.V_drewN | apply Kd.V_drew)); exact HO0_0.o) hb)
         replace HL102_1 := q_ (Kd.V_below (by (with_reducible repeat (first | apply Kd.V_alloc | apply Kd.V_drewN | apply Kd.V_drew)); exact HL102_1.o) hb)
         replace HL102_2 := q_ (Kd.V_below (by (with_reducible repeat (first | apply Kd.V_alloc | apply Kd.V_drewN | apply Kd.V_drew)); exact HL102_2.o) hb)
         replace BK101 := lb_ BK101 hb; replace BK103 := lb_ BK103 hb; replace HB := sb2_ HB GE101 GE103 hb
         (try clear hb)
         (try clear hb2)
         (try clear hk)
         (try clear hi)
         (try clear ho0)
         refine hK.out _ _ ⟨(blk_cell BK101.o 0).trans rfl, (blk_cell BK103.o 0).trans rfl, (blk_cell BK103.o 1).trans rfl, (blk_cell BK103.o 2).trans rfl, (blk_cell BK103.o 3).trans rfl, (blk_cell BK103.o 4).trans rfl, HS6_, HS7_⟩ (fun hHeld => ?_)
         clear hK K; refine no_ (some 54) ?_
         refine one_ (i := 11) (N := some 60) (bb 14 4095) rfl rfl (one_of HT_.o (by kernel_rfl)) (by decide) (fun K hK => ?_)
         refine gs_ Try.func71 #[.agg #[.slice (some ad102) l0_0.length c0_0], .int .i64 (rd ((rd_T156 l0_0 a1).f2) 1)] ?_
         with_reducible refine (ih k (by omega) (fun k_ => ((P0_0_ k_ ∨ w.heap.size ≤ k_) ∧ (k_ ≠ gb101 ∧ k_ ≠ gb103))) _ _ l0_0 (rd ((rd_T156 l0_0 a1).f2) 1) t126 _ ?side1 A54.o).mono ?_
         (case side1 => exact HO0_0.o)
         rintro e w64 ⟨v127, rfl, ho0, hb⟩
         have HS6_ := (hb.cell (World.block_lt_of_cell? _ _ (hHeld.2.2.2.2.2.2.1))).trans (hHeld.2.2.2.2.2.2.1); have HS7_ := (hb.cell (World.block_lt_of_cell? _ _ (hHeld.2.2.2.2.2.2.2))).trans (hHeld.2.2.2.2.2.2.2); refine ⟨_, rfl, ?_⟩
         have HO128 := q_ (Kd.V_lower (Kd.V_mono (ok' := fun k_ => (P0_0_ k_ ∨ w.heap.size ≤ k_) ∧ k_ ≠ gb101 ∧ k_ ≠ gb103) ho0 (fun k_ hk_ => ⟨Or.elim hk_ (fun hs_ => hs_.1) (fun hn_ => (.inr (Nat.le_trans (below_size (be2_ HB.o GE101.o GE103.o)) hn_))), Or.elim hk_ (fun hs_ => hs_.2.1) (fun hn_ => (Kd.freshB (g := gb101) (o := .cells #[.slice (some ad102) l0_0.length c0_0] 29 (0, 0)) (bk_ BK101.o) k_ hn_)), Or.elim hk_ (fun hs_ => hs_.2.2) (fun hn_ => (Kd.freshB (g := gb103) (o := .cells #[.int .i64 ((rd_T156 l0_0 a1).f0), .slice A102_1 ((rd_T156 l0_0 a1).f1).length c102_1, .slice (some ad121) ((rd_T156 l0_0 a1).f2).length c102_2, .int .i64 ((rd_T156 l0_0 a1).f3), .int .i64 ((rd_T156 l0_0 a1).f4)] 156 (0, 0)) (bk_ BK103.o) k_ hn_))⟩)) (below_size (be2_ HB.o GE101.o GE103.o)))
         replace HO0_0 := q_ (Kd.V_below (by (with_reducible repeat (first | apply Kd.V_alloc | apply Kd.V_drewN | apply Kd.V_drew)); exact HO0_0.o) hb)
         replace HL102_1 := q_ (Kd.V_below (by (with_reducible repeat (first | apply Kd.V_alloc | apply Kd.V_drewN | apply Kd.V_drew)); exact HL102_1.o) hb)
         replace HL102_2 := q_ (Kd.V_below (by (with_reducible repeat (first | apply Kd.V_alloc | apply Kd.V_drewN | apply Kd.V_drew)); exact HL102_2.o) hb)
         replace HO124 := q_ (Kd.V_below (by (with_reducible repeat (first | apply Kd.V_alloc | apply Kd.V_drewN | apply Kd.V_drew)); exact HO124.o) hb)
         replace BK101 := lb_ BK101 hb; replace BK103 := lb_ BK103 hb; replace HB := sb2_ HB GE101 GE103 hb
         (try clear hb)
         (try clear hb2)
         (try clear hk)
         (try clear hi)
         (try clear ho0)
         obtain ⟨Ao65, co65, eo65⟩ := Kd.V_slice HO124.o
         (first | subst eo65 | (injection eo65 with f1_ f2_ f3_; have f4_ := f1_.symm; have f5_ := f3_.symm; clear f1_ f2_ f3_; subst f4_; subst f5_))
         obtain ⟨Ao66, co66, eo66⟩ := Kd.V_slice HO128.o
         (first | subst eo66 | (injection eo66 with f1_ f2_ f3_; have f4_ := f1_.symm; have f5_ := f3_.symm; clear f1_ f2_ f3_; subst f4_; subst f5_))
         refine hK.out _ _ ⟨(blk_cell BK101.o 0).trans rfl, (blk_cell BK103.o 0).trans rfl, (blk_cell BK103.o 1).trans rfl, (blk_cell BK103.o 2).trans rfl, (blk_cell BK103.o 3).trans rfl, (blk_cell BK103.o 4).trans rfl, HS6_, HS7_⟩ (fun hHeld => ?_)
         clear hK K; refine no_ (some 60) ?_
         refine one_ (i := 12) (N := some 61) (bb 14 8191) rfl rfl (one_of HT_.o (by kernel_rfl)) (by decide) (fun K hK => ?_)
         refine gs_ Try.func70 #[.slice Ao65 t122.length co65, .slice Ao66 t126.length co66] ?_
         with_reducible refine (impl_Joined.calls _ _ t122 _ _ t126 t129 _ ?side1 ?side2 ?side3 ?side4 A55.o).mono ?_
         (case side1 => repeat (first | exact (Kd.V_reads' HO124.o).2.2 | (with_reducible refine Kd.C_alloc ?_ _) | (with_reducible refine Kd.C_drewN ?_ _) | (with_reducible refine Kd.C_drew ?_)))
         (case side2 => exact (Kd.V_reads' HO124.o).2.1)
         (case side3 => repeat (first | exact (Kd.V_reads' HO128.o).2.2 | (with_reducible refine Kd.C_alloc ?_ _) | (with_reducible refine Kd.C_drewN ?_ _) | (with_reducible refine Kd.C_drew ?_)))
         (case side4 => exact (Kd.V_reads' HO128.o).2.1)
         rintro e w67 ⟨v130, rfl, ho0, hb⟩
         have HS6_ := (hb.cell (World.block_lt_of_cell? _ _ (hHeld.2.2.2.2.2.2.1))).trans (hHeld.2.2.2.2.2.2.1); have HS7_ := (hb.cell (World.block_lt_of_cell? _ _ (hHeld.2.2.2.2.2.2.2))).trans (hHeld.2.2.2.2.2.2.2); refine ⟨_, rfl, ?_⟩
         have HO131 := q_ (Kd.R_lower (Kd.R_newM (M := fun k_ => (w.heap.size ≤ k_)) ho0 (below_size (be2_ HB.o GE101.o GE103.o)) (fun k_ h_ => h_)) (below_size (be2_ HB.o GE101.o GE103.o)))
         replace HO0_0 := q_ (Kd.V_elder' (by (with_reducible repeat (first | apply Kd.V_alloc | apply Kd.V_drewN | apply Kd.V_drew)); exact HO0_0.o) (Kd.R_base ho0) hb)
         replace HL102_1 := q_ (Kd.V_elder' (by (with_reducible repeat (first | apply Kd.V_alloc | apply Kd.V_drewN | apply Kd.V_drew)); exact HL102_1.o) (Kd.R_base ho0) hb)
         replace HL102_2 := q_ (Kd.V_elder' (by (with_reducible repeat (first | apply Kd.V_alloc | apply Kd.V_drewN | apply Kd.V_drew)); exact HL102_2.o) (Kd.R_base ho0) hb)
         replace HO124 := q_ (Kd.V_elder' (by (with_reducible repeat (first | apply Kd.V_alloc | apply Kd.V_drewN | apply Kd.V_drew)); exact HO124.o) (Kd.R_base ho0) hb)
         replace HO128 := q_ (Kd.V_elder' (by (with_reducible repeat (first | apply Kd.V_alloc | apply Kd.V_drewN | apply Kd.V_drew)); exact HO128.o) (Kd.R_base ho0) hb)
         replace BK101 := lb_ BK101 hb; replace BK103 := lb_ BK103 hb; replace HB := sb2_ HB GE101 GE103 hb
         (try clear hb)
         (try clear hb2)
         (try clear hk)
         (try clear hi)
         (try clear ho0)
         refine hK.out _ _ ⟨(blk_cell BK101.o 0).trans rfl, (blk_cell BK103.o 0).trans rfl, (blk_cell BK103.o 1).trans rfl, (blk_cell BK103.o 2).trans rfl, (blk_cell BK103.o 3).trans rfl, (blk_cell BK103.o 4).trans rfl, HS6_, HS7_⟩ (fun hHeld => ?_)
         clear hK K; refine no_ (some 61) ?_; refine pv_ 13 4 16383 HT_.o ?_
         refine done_ (done_of HT_.o (by kernel_rfl)) ?_
         try go_wp2
         go_ret
         exact ⟨_, rt_, Kd.V_mono (Kd.R_V (by (with_reducible repeat (first | apply Kd.R_alloc | apply Kd.R_drewN | apply Kd.R_drew)); exact Kd.R_mono HO131.o (fun _ hk => hk.1))) (fun k_ hk => by first | exact ⟨(.inr (hk.1)), hk.2⟩ | exact (.inr (hk))), be2_ HB.o GE101.o GE103.o⟩
        ·rw [if_neg c53] at H
         exact absurd H (by simp)
       ·rw [if_neg c51] at H
        exact absurd H (by simp)
      ·rw [if_neg c50] at H
       have c50b0 : (((rd_T156 l0_0 a1).f0) == 4) = false := beq_eq_false_iff_ne.mpr c50
       have c50b1 : (((rd_T156 l0_0 a1).f0) != 4) = true := bne_iff_ne.mpr c50
       by_cases c68 : 0 < (((rd_T156 l0_0 a1).f2).length : Int)
       ·rw [if_pos c68] at H; have c68b0 := dt_ c68
        have c68b1 : decide (0 < ((rd_T156 l0_0 a1).f2).length) = true := decide_eq_true (by omega)
        clear c68; obtain ⟨t133, A69, H⟩ := ob_ H; obtain rfl := Option.some.inj H
        go_enter Try.func71, Try.ntmps71
        try go_wp2_with (first | ((with_reducible refine gate_dst (N := 2) rfl ?_); refine bx_ 2 #[.slice A0_0 l0_0.length c0_0] 29 ?_; intro gb101 hg w70 hbox hb; have BK101 := q_ (hbox); have GE101 := ge_ hg HB; replace HO0_0 := q_ (Kd.V_below (Kd.V_elderB (by (with_reducible repeat (first | apply Kd.V_alloc | apply Kd.V_drewN | apply Kd.V_drew)); exact HO0_0.o) gb101 (Nat.le_of_eq hg.symm)) hb); replace HB := sb_ HB hb; clear hb hbox hg; obtain ⟨hcz71_0, hfz71_0⟩ := d1_ BK101; have p102 : 0 ≤ (a1 : Int) := of_decide_eq_true as_; have q102 : a1 < (l0_0.length : Int) := of_decide_eq_true as_; obtain ⟨ad102, A102_1, c102_1, A102_2, c102_2, e102, hx102_0, hx102_1, hx102_2, hx102_3, hx102_4, hl102_1, hi102_1, hl102_2, hi102_2⟩ := at_T156 (Kd.V_reads' HO0_0.o).2.2 a1 p102 q102; cases e102; obtain ⟨ce102, hce102, hMe102, hcc102⟩ := Kd.V_get HO0_0.o z156 a1 p102 (by first | exact q102 | exact of_decide_eq_true as_ | (have e_ := (Kd.V_reads' HO0_0.o).1; omega)); obtain ⟨ua102_1, uc102_1, ua102_2, uc102_2, rfl, ul102_1, ge102_1, ul102_2, ge102_2⟩ := k156_openF hMe102; have hv102_1 := hcc102 1 _ rfl; rw [add_field _ _ 1 (by omega)] at hv102_1; replace hv102_1 := Option.some.inj (hv102_1.symm.trans hx102_1); injection hv102_1 with hva_ hvn_ hvc_; rw [hva_] at ge102_1; rw [hvc_] at ul102_1; have HL102_1 := q_ (show Kd.V k103 103 _ w.heap.size _ _ ((rd_T156 l0_0 a1).f1) from Kd.V_mk ul102_1 ge102_1); clear hva_ hvn_ hvc_ ge102_1 ul102_1; have hv102_2 := hcc102 2 _ rfl; rw [add_field _ _ 2 (by omega)] at hv102_2; replace hv102_2 := Option.some.inj (hv102_2.symm.trans hx102_2); injection hv102_2 with hva_ hvn_ hvc_; rw [hva_] at ge102_2; rw [hvc_] at ul102_2; have HL102_2 := q_ (show Kd.V (Kd.int .i64) 2 _ w.heap.size _ _ ((rd_T156 l0_0 a1).f2) from Kd.V_mk ul102_2 ge102_2); clear hva_ hvn_ hvc_ ge102_2 ul102_2; clear hcc102 hce102; have HR102_1 := q_ hi102_1; have HC102_1 := q_ hl102_1; clear hi102_1 hl102_1; have HR102_2 := q_ hi102_2; have HC102_2 := q_ hl102_2; clear hi102_2 hl102_2; replace p102 := eq_true p102; replace q102 := eq_true q102) | ((with_reducible refine gate_dst (N := 5) rfl ?_); refine bx_ 5 #[.int .i64 0, .slice none 0 0, .slice none 0 0, .int .i64 0, .int .i64 0] 156 ?_; intro gb103 hg w72 hbox hb; have BK103 := q_ (hbox); have GE103 := ge1_ hg HB GE101; have NB101_103 := nl_ hg BK101; have NB103_101 := ng_ hg BK101; replace HO0_0 := q_ (Kd.V_below (Kd.V_elderB (by (with_reducible repeat (first | apply Kd.V_alloc | apply Kd.V_drewN | apply Kd.V_drew)); exact HO0_0.o) gb103 (Nat.le_of_eq hg.symm)) hb); replace HL102_1 := q_ (Kd.V_below (Kd.V_elderB (by (with_reducible repeat (first | apply Kd.V_alloc | apply Kd.V_drewN | apply Kd.V_drew)); exact HL102_1.o) gb103 (Nat.le_of_eq hg.symm)) hb); replace HL102_2 := q_ (Kd.V_below (Kd.V_elderB (by (with_reducible repeat (first | apply Kd.V_alloc | apply Kd.V_drewN | apply Kd.V_drew)); exact HL102_2.o) gb103 (Nat.le_of_eq hg.symm)) hb); replace BK101 := lb_ BK101 hb; replace HR102_1 := q_ (Kd.C_below (by repeat (first | (with_reducible exact HR102_1.o) | (with_reducible refine Kd.C_alloc ?_ _) | (with_reducible refine Kd.C_drewN ?_ _) | (with_reducible refine Kd.C_drew ?_) | exact HR102_1.o)) hb); replace HR102_2 := q_ (Kd.C_below (by repeat (first | (with_reducible exact HR102_2.o) | (with_reducible refine Kd.C_alloc ?_ _) | (with_reducible refine Kd.C_drewN ?_ _) | (with_reducible refine Kd.C_drew ?_) | exact HR102_2.o)) hb); replace HB := sb1_ HB GE101 hb; clear hb hbox hg; have hnb73 := NB103_101.o; have hnc73 := NB101_103.o; obtain ⟨hcz74_0, hcz74_1, hcz74_2, hcz74_3, hcz74_4, hfz74_0, hfz74_1, hfz74_2, hfz74_3, hfz74_4⟩ := d5_ BK103))
        have n0_ : J0 (Kd.V k156 156 (((((w72.setCell ⟨gb103, 0, none⟩ (.int .i64 ((rd_T156 l0_0 a1).f0))).setCell ⟨gb103, 1, none⟩ (.slice A102_1 ((rd_T156 l0_0 a1).f1).length c102_1)).setCell ⟨gb103, 2, none⟩ (.slice A102_2 ((rd_T156 l0_0 a1).f2).length c102_2)).setCell ⟨gb103, 3, none⟩ (.int .i64 ((rd_T156 l0_0 a1).f3))).setCell ⟨gb103, 4, none⟩ (.int .i64 ((rd_T156 l0_0 a1).f4))) w.heap.size (fun k_ => (P0_0_ k_ ∨ w.heap.size ≤ k_) ∧ k_ ≠ gb101 ∧ k_ ≠ gb103) (.slice (some ad102) l0_0.length c0_0) l0_0) := ⟨by (with_reducible repeat (first | apply Kd.V_alloc | apply Kd.V_drewN | apply Kd.V_drew)); exact Kd.V_mono (Kd.V_far (p := ⟨gb103, 4, none⟩) (Kd.V_far (p := ⟨gb103, 3, none⟩) (Kd.V_far (p := ⟨gb103, 2, none⟩) (Kd.V_far (p := ⟨gb103, 1, none⟩) (Kd.V_far (p := ⟨gb103, 0, none⟩) (Kd.V_mono HO0_0.o (fun k_ hk => (⟨hk, hk.2⟩ : _ ∧ k_ ≠ gb103))) (fun _ hk => hk.2) (.int .i64 ((rd_T156 l0_0 a1).f0))) (fun _ hk => hk.2) (.slice A102_1 ((rd_T156 l0_0 a1).f1).length c102_1)) (fun _ hk => hk.2) (.slice A102_2 ((rd_T156 l0_0 a1).f2).length c102_2)) (fun _ hk => hk.2) (.int .i64 ((rd_T156 l0_0 a1).f3))) (fun _ hk => hk.2) (.int .i64 ((rd_T156 l0_0 a1).f4))) (fun _ hk => ⟨hk.1.1.1, ⟨hk.1.1.2, hk.1.2⟩⟩)⟩
        have n1_ : J0 (Kd.V k103 103 (((((w72.setCell ⟨gb103, 0, none⟩ (.int .i64 ((rd_T156 l0_0 a1).f0))).setCell ⟨gb103, 1, none⟩ (.slice A102_1 ((rd_T156 l0_0 a1).f1).length c102_1)).setCell ⟨gb103, 2, none⟩ (.slice A102_2 ((rd_T156 l0_0 a1).f2).length c102_2)).setCell ⟨gb103, 3, none⟩ (.int .i64 ((rd_T156 l0_0 a1).f3))).setCell ⟨gb103, 4, none⟩ (.int .i64 ((rd_T156 l0_0 a1).f4))) w.heap.size (fun k_ => (P0_0_ k_ ∨ w.heap.size ≤ k_) ∧ k_ ≠ gb101 ∧ k_ ≠ gb103) (.slice A102_1 ((rd_T156 l0_0 a1).f1).length c102_1) ((rd_T156 l0_0 a1).f1)) := ⟨by (with_reducible repeat (first | apply Kd.V_alloc | apply Kd.V_drewN | apply Kd.V_drew)); exact Kd.V_mono (Kd.V_far (p := ⟨gb103, 4, none⟩) (Kd.V_far (p := ⟨gb103, 3, none⟩) (Kd.V_far (p := ⟨gb103, 2, none⟩) (Kd.V_far (p := ⟨gb103, 1, none⟩) (Kd.V_far (p := ⟨gb103, 0, none⟩) (Kd.V_mono HL102_1.o (fun k_ hk => (⟨hk, hk.2⟩ : _ ∧ k_ ≠ gb103))) (fun _ hk => hk.2) (.int .i64 ((rd_T156 l0_0 a1).f0))) (fun _ hk => hk.2) (.slice A102_1 ((rd_T156 l0_0 a1).f1).length c102_1)) (fun _ hk => hk.2) (.slice A102_2 ((rd_T156 l0_0 a1).f2).length c102_2)) (fun _ hk => hk.2) (.int .i64 ((rd_T156 l0_0 a1).f3))) (fun _ hk => hk.2) (.int .i64 ((rd_T156 l0_0 a1).f4))) (fun _ hk => ⟨hk.1.1.1, ⟨hk.1.1.2, hk.1.2⟩⟩)⟩
        have n2_ : J0 (Kd.V (Kd.int .i64) 2 (((((w72.setCell ⟨gb103, 0, none⟩ (.int .i64 ((rd_T156 l0_0 a1).f0))).setCell ⟨gb103, 1, none⟩ (.slice A102_1 ((rd_T156 l0_0 a1).f1).length c102_1)).setCell ⟨gb103, 2, none⟩ (.slice A102_2 ((rd_T156 l0_0 a1).f2).length c102_2)).setCell ⟨gb103, 3, none⟩ (.int .i64 ((rd_T156 l0_0 a1).f3))).setCell ⟨gb103, 4, none⟩ (.int .i64 ((rd_T156 l0_0 a1).f4))) w.heap.size (fun k_ => (P0_0_ k_ ∨ w.heap.size ≤ k_) ∧ k_ ≠ gb101 ∧ k_ ≠ gb103) (.slice A102_2 ((rd_T156 l0_0 a1).f2).length c102_2) ((rd_T156 l0_0 a1).f2)) := ⟨by (with_reducible repeat (first | apply Kd.V_alloc | apply Kd.V_drewN | apply Kd.V_drew)); exact Kd.V_mono (Kd.V_far (p := ⟨gb103, 4, none⟩) (Kd.V_far (p := ⟨gb103, 3, none⟩) (Kd.V_far (p := ⟨gb103, 2, none⟩) (Kd.V_far (p := ⟨gb103, 1, none⟩) (Kd.V_far (p := ⟨gb103, 0, none⟩) (Kd.V_mono HL102_2.o (fun k_ hk => (⟨hk, hk.2⟩ : _ ∧ k_ ≠ gb103))) (fun _ hk => hk.2) (.int .i64 ((rd_T156 l0_0 a1).f0))) (fun _ hk => hk.2) (.slice A102_1 ((rd_T156 l0_0 a1).f1).length c102_1)) (fun _ hk => hk.2) (.slice A102_2 ((rd_T156 l0_0 a1).f2).length c102_2)) (fun _ hk => hk.2) (.int .i64 ((rd_T156 l0_0 a1).f3))) (fun _ hk => hk.2) (.int .i64 ((rd_T156 l0_0 a1).f4))) (fun _ hk => ⟨hk.1.1.1, ⟨hk.1.1.2, hk.1.2⟩⟩)⟩
        have n3_ : J0 ((((((w72.setCell ⟨gb103, 0, none⟩ (.int .i64 ((rd_T156 l0_0 a1).f0))).setCell ⟨gb103, 1, none⟩ (.slice A102_1 ((rd_T156 l0_0 a1).f1).length c102_1)).setCell ⟨gb103, 2, none⟩ (.slice A102_2 ((rd_T156 l0_0 a1).f2).length c102_2)).setCell ⟨gb103, 3, none⟩ (.int .i64 ((rd_T156 l0_0 a1).f3))).setCell ⟨gb103, 4, none⟩ (.int .i64 ((rd_T156 l0_0 a1).f4))).heap[gb101]? = some (.cells #[.slice (some ad102) l0_0.length c0_0] 29 (0, 0))) := ⟨by (with_reducible repeat (first | refine blk_drewN ?_ _ | refine blk_drew ?_ | refine blk_alloc ?_ _)); refine blk_far ?_ NB101_103.o _; (with_reducible repeat (first | refine blk_drewN ?_ _ | refine blk_drew ?_ | refine blk_alloc ?_ _)); refine blk_far ?_ NB101_103.o _; (with_reducible repeat (first | refine blk_drewN ?_ _ | refine blk_drew ?_ | refine blk_alloc ?_ _)); refine blk_far ?_ NB101_103.o _; (with_reducible repeat (first | refine blk_drewN ?_ _ | refine blk_drew ?_ | refine blk_alloc ?_ _)); refine blk_far ?_ NB101_103.o _; (with_reducible repeat (first | refine blk_drewN ?_ _ | refine blk_drew ?_ | refine blk_alloc ?_ _)); refine blk_far ?_ NB101_103.o _; (with_reducible repeat (first | refine blk_drewN ?_ _ | refine blk_drew ?_ | refine blk_alloc ?_ _)); exact BK101.o⟩
        have n4_ : J0 ((((((w72.setCell ⟨gb103, 0, none⟩ (.int .i64 ((rd_T156 l0_0 a1).f0))).setCell ⟨gb103, 1, none⟩ (.slice A102_1 ((rd_T156 l0_0 a1).f1).length c102_1)).setCell ⟨gb103, 2, none⟩ (.slice A102_2 ((rd_T156 l0_0 a1).f2).length c102_2)).setCell ⟨gb103, 3, none⟩ (.int .i64 ((rd_T156 l0_0 a1).f3))).setCell ⟨gb103, 4, none⟩ (.int .i64 ((rd_T156 l0_0 a1).f4))).heap[gb103]? = some (.cells #[.int .i64 ((rd_T156 l0_0 a1).f0), .slice A102_1 ((rd_T156 l0_0 a1).f1).length c102_1, .slice A102_2 ((rd_T156 l0_0 a1).f2).length c102_2, .int .i64 ((rd_T156 l0_0 a1).f3), .int .i64 ((rd_T156 l0_0 a1).f4)] 156 (0, 0))) := ⟨by (with_reducible repeat (first | refine blk_drewN ?_ _ | refine blk_drew ?_ | refine blk_alloc ?_ _)); refine blk_put (cs := #[.int .i64 ((rd_T156 l0_0 a1).f0), .slice A102_1 ((rd_T156 l0_0 a1).f1).length c102_1, .slice A102_2 ((rd_T156 l0_0 a1).f2).length c102_2, .int .i64 ((rd_T156 l0_0 a1).f3), .int .i64 0]) ?_ 4 _ rfl; (with_reducible repeat (first | refine blk_drewN ?_ _ | refine blk_drew ?_ | refine blk_alloc ?_ _)); refine blk_put (cs := #[.int .i64 ((rd_T156 l0_0 a1).f0), .slice A102_1 ((rd_T156 l0_0 a1).f1).length c102_1, .slice A102_2 ((rd_T156 l0_0 a1).f2).length c102_2, .int .i64 0, .int .i64 0]) ?_ 3 _ rfl; (with_reducible repeat (first | refine blk_drewN ?_ _ | refine blk_drew ?_ | refine blk_alloc ?_ _)); refine blk_put (cs := #[.int .i64 ((rd_T156 l0_0 a1).f0), .slice A102_1 ((rd_T156 l0_0 a1).f1).length c102_1, .slice none 0 0, .int .i64 0, .int .i64 0]) ?_ 2 _ rfl; (with_reducible repeat (first | refine blk_drewN ?_ _ | refine blk_drew ?_ | refine blk_alloc ?_ _)); refine blk_put (cs := #[.int .i64 ((rd_T156 l0_0 a1).f0), .slice none 0 0, .slice none 0 0, .int .i64 0, .int .i64 0]) ?_ 1 _ rfl; (with_reducible repeat (first | refine blk_drewN ?_ _ | refine blk_drew ?_ | refine blk_alloc ?_ _)); refine blk_put (cs := #[.int .i64 0, .slice none 0 0, .slice none 0 0, .int .i64 0, .int .i64 0]) ?_ 0 _ rfl; (with_reducible repeat (first | refine blk_drewN ?_ _ | refine blk_drew ?_ | refine blk_alloc ?_ _)); exact BK103.o⟩
        have n5_ : J0 (Below w.heap.size w (((((w72.setCell ⟨gb103, 0, none⟩ (.int .i64 ((rd_T156 l0_0 a1).f0))).setCell ⟨gb103, 1, none⟩ (.slice A102_1 ((rd_T156 l0_0 a1).f1).length c102_1)).setCell ⟨gb103, 2, none⟩ (.slice A102_2 ((rd_T156 l0_0 a1).f2).length c102_2)).setCell ⟨gb103, 3, none⟩ (.int .i64 ((rd_T156 l0_0 a1).f3))).setCell ⟨gb103, 4, none⟩ (.int .i64 ((rd_T156 l0_0 a1).f4)))) := ⟨be2_ HB.o GE101.o GE103.o⟩
        (try clear HO0_0)
        (try clear HL102_1)
        (try clear HL102_2)
        (try clear BK101)
        (try clear BK103)
        (try clear HB)
        generalize (((((w72.setCell ⟨gb103, 0, none⟩ (.int .i64 ((rd_T156 l0_0 a1).f0))).setCell ⟨gb103, 1, none⟩ (.slice A102_1 ((rd_T156 l0_0 a1).f1).length c102_1)).setCell ⟨gb103, 2, none⟩ (.slice A102_2 ((rd_T156 l0_0 a1).f2).length c102_2)).setCell ⟨gb103, 3, none⟩ (.int .i64 ((rd_T156 l0_0 a1).f3))).setCell ⟨gb103, 4, none⟩ (.int .i64 ((rd_T156 l0_0 a1).f4))) = w75 at n0_ n1_ n2_ n3_ n4_ n5_ ⊢
        have HO0_0 := n0_; have HL102_1 := n1_; have HL102_2 := n2_; have BK101 := n3_; have BK103 := n4_; have HB := n5_; clear n0_ n1_ n2_ n3_ n4_ n5_; replace HO0_0 := q_ (Kd.V_drew HO0_0.o); replace HL102_1 := q_ (Kd.V_drew HL102_1.o); replace HL102_2 := q_ (Kd.V_drew HL102_2.o); replace BK101 := q_ (blk_drew BK101.o); replace BK103 := q_ (blk_drew BK103.o); replace HB := q_ (below_drew1 HB.o)
        have p132 : 0 ≤ (0 : Int) := (by omega)
        have q132 : 0 < (((rd_T156 l0_0 a1).f2).length : Int) := of_decide_eq_true as_
        obtain ⟨ad132, e132, hx132_0⟩ := Kd.at_int ((Kd.V_reads' HL102_2.o).2.2) 0 p132 q132
        cases e132
        have qi132 : (0 < ((rd_T156 l0_0 a1).f2).length) = True := eq_true (by omega)
        (try rw [show ((0 : Int)).toNat = 0 from rfl] at hx132_0)
        (try rw [Addr.add_zero'] at hx132_0)
        replace p132 := eq_true p132; replace q132 := eq_true q132
        refine start_ (n := 7) (S := fun w' => w'.cell? ⟨gb101, 0, none⟩ = some (.slice (some ad102) l0_0.length c0_0) ∧ w'.cell? ⟨gb103, 0, none⟩ = some (.int .i64 ((rd_T156 l0_0 a1).f0)) ∧ w'.cell? ⟨gb103, 1, none⟩ = some (.slice A102_1 ((rd_T156 l0_0 a1).f1).length c102_1) ∧ w'.cell? ⟨gb103, 2, none⟩ = some (.slice (some ad132) ((rd_T156 l0_0 a1).f2).length c102_2) ∧ w'.cell? ⟨gb103, 3, none⟩ = some (.int .i64 ((rd_T156 l0_0 a1).f3)) ∧ w'.cell? ⟨gb103, 4, none⟩ = some (.int .i64 ((rd_T156 l0_0 a1).f4)) ∧ w'.cell? ad132 = some (.int .i64 (rd ((rd_T156 l0_0 a1).f2) 0))) (ds := []) (bb 7 0) (by kernel_rfl) rfl rfl ⟨(blk_cell BK101.o 0).trans rfl, (blk_cell BK103.o 0).trans rfl, (blk_cell BK103.o 1).trans rfl, (blk_cell BK103.o 2).trans rfl, (blk_cell BK103.o 3).trans rfl, (blk_cell BK103.o 4).trans rfl, hx132_0⟩ (fun hHeld => ?_)
        generalize w75.drew = w76 at HO0_0 HL102_1 HL102_2 BK101 BK103 HB hx132_0 hHeld ⊢
        refine pk_ 1 63 2 ?_; refine tk_ 0 62 3 hHeld ?_; refine tk_ 2 64 7 hHeld ?_; refine pk_ 3 65 15 ?_; refine tk_ 4 66 31 hHeld ?_
        refine one_ (i := 5) (N := some 67) (bb 7 63) rfl rfl (by kernel_rfl) (by decide) (fun K hK => ?_)
        refine gs_ Try.func71 #[.agg #[.slice (some ad102) l0_0.length c0_0], .int .i64 (rd ((rd_T156 l0_0 a1).f2) 0)] ?_
        with_reducible refine (ih k (by omega) (fun k_ => ((P0_0_ k_ ∨ w.heap.size ≤ k_) ∧ (k_ ≠ gb101 ∧ k_ ≠ gb103))) _ _ l0_0 (rd ((rd_T156 l0_0 a1).f2) 0) t133 _ ?side1 A69.o).mono ?_
        (case side1 => exact HO0_0.o)
        rintro e w77 ⟨v134, rfl, ho0, hb⟩
        have HS6_ := (hb.cell (World.block_lt_of_cell? _ _ (hHeld.2.2.2.2.2.2))).trans (hHeld.2.2.2.2.2.2); refine ⟨_, rfl, ?_⟩
        have HO135 := q_ (Kd.V_lower (Kd.V_mono (ok' := fun k_ => (P0_0_ k_ ∨ w.heap.size ≤ k_) ∧ k_ ≠ gb101 ∧ k_ ≠ gb103) ho0 (fun k_ hk_ => ⟨Or.elim hk_ (fun hs_ => hs_.1) (fun hn_ => (.inr (Nat.le_trans (below_size (be2_ HB.o GE101.o GE103.o)) hn_))), Or.elim hk_ (fun hs_ => hs_.2.1) (fun hn_ => (Kd.freshB (g := gb101) (o := .cells #[.slice (some ad102) l0_0.length c0_0] 29 (0, 0)) (bk_ BK101.o) k_ hn_)), Or.elim hk_ (fun hs_ => hs_.2.2) (fun hn_ => (Kd.freshB (g := gb103) (o := .cells #[.int .i64 ((rd_T156 l0_0 a1).f0), .slice A102_1 ((rd_T156 l0_0 a1).f1).length c102_1, .slice (some ad132) ((rd_T156 l0_0 a1).f2).length c102_2, .int .i64 ((rd_T156 l0_0 a1).f3), .int .i64 ((rd_T156 l0_0 a1).f4)] 156 (0, 0)) (bk_ BK103.o) k_ hn_))⟩)) (below_size (be2_ HB.o GE101.o GE103.o)))
        replace HO0_0 := q_ (Kd.V_below (by (with_reducible repeat (first | apply Kd.V_alloc | apply Kd.V_drewN | apply Kd.V_drew)); exact HO0_0.o) hb)
        replace HL102_1 := q_ (Kd.V_below (by (with_reducible repeat (first | apply Kd.V_alloc | apply Kd.V_drewN | apply Kd.V_drew)); exact HL102_1.o) hb)
        replace HL102_2 := q_ (Kd.V_below (by (with_reducible repeat (first | apply Kd.V_alloc | apply Kd.V_drewN | apply Kd.V_drew)); exact HL102_2.o) hb)
        replace BK101 := lb_ BK101 hb; replace BK103 := lb_ BK103 hb; replace HB := sb2_ HB GE101 GE103 hb
        (try clear hb)
        (try clear hb2)
        (try clear hk)
        (try clear hi)
        (try clear ho0)
        refine hK.out _ _ ⟨(blk_cell BK101.o 0).trans rfl, (blk_cell BK103.o 0).trans rfl, (blk_cell BK103.o 1).trans rfl, (blk_cell BK103.o 2).trans rfl, (blk_cell BK103.o 3).trans rfl, (blk_cell BK103.o 4).trans rfl, HS6_⟩ (fun hHeld => ?_)
        clear hK K; refine no_ (some 67) ?_; refine pk_ 6 4 127 ?_
        refine done_ (by kernel_rfl) ?_
        try go_wp2
        go_ret
        exact ⟨_, rt_, by (with_reducible repeat (first | apply Kd.V_alloc | apply Kd.V_drewN | apply Kd.V_drew)); exact Kd.V_mono HO135.o (fun _ hk => hk.1), be2_ HB.o GE101.o GE103.o⟩
       ·rw [if_neg c68] at H
        exact absurd H (by simp)
  ·rw [if_neg c4] at H
   exact absurd H (by simp)
 ·rw [if_neg c3] at H
  exact absurd H (by simp)
/-! ### impl_FirstOf: function 20 -/
def impl_FirstOf.f (k : Nat) (l0_0 : List (S156)) : Option ((List (S103))) := (impl_RxOk.f k l0_0).bind fun t102 => (if t102 = true then ((impl_Rx_last.f l0_0).bind fun t103 => ((impl_Rx_first.f k l0_0 t103).bind fun t104 => ((impl_Joined.f t104 ([] : List (S103))).bind fun t107 => (some t107)))) else (some ([] : List (S103))))
theorem impl_FirstOf.calls (k : Nat) (A0_0 : Option Addr) (c0_0 : Nat) (l0_0 : List (S156)) (r : List (S103)) (w : World) (hr0_0 : Kd.C k156 w A0_0 l0_0.length l0_0) (hc0_0 : l0_0.length ≤ c0_0) (h : impl_FirstOf.f k l0_0 = some r) :
  Calls Try.prog 20 #[.agg #[.slice A0_0 l0_0.length c0_0]] w fun e w' => ∃ v0_ : Value, e = .returned (v0_) ∧ Kd.R k103 103 w' w.heap.size (fun _ => True) v0_ r ∧ Below w.heap.size w w' := by
 have hu29 := Try.underlying29; have HR0_0 := q_ hr0_0; have HC0_0 := q_ hc0_0; clear hr0_0 hc0_0; have HB := q_ (Below.refl w.heap.size w)
 have H : ((impl_RxOk.f k l0_0).bind fun t102 => (if t102 = true then ((impl_Rx_last.f l0_0).bind fun t103 => ((impl_Rx_first.f k l0_0 t103).bind fun t104 => ((impl_Joined.f t104 ([] : List (S103))).bind fun t107 => (some t107)))) else (some ([] : List (S103))))) = some r := h
 clear h; obtain ⟨t102, A2, H⟩ := ob_ H
 by_cases c3 : t102 = true
 ·subst c3; rw [if_pos rfl] at H; obtain ⟨t103, A4, H⟩ := ob_ H; obtain ⟨t104, A5, H⟩ := ob_ H; obtain ⟨t107, A6, H⟩ := ob_ H; obtain rfl := Option.some.inj H
  go_enter Try.func20, Try.ntmps20
  try go_wp2_with (first | ((with_reducible refine gate_dst (N := 1) rfl ?_); refine bx_ 1 #[.slice A0_0 l0_0.length c0_0] 29 ?_; intro gb101 hg w7 hbox hb; have BK101 := q_ (hbox); have GW101 := ge_ hg HB; have GE101 := GW101; replace HB := sb_ HB hb; clear hb hbox hg; obtain ⟨hcz8_0, hfz8_0⟩ := d1_ BK101) | ((with_reducible refine gate_callee (f := 62) rfl ?_); refine gl_ (some 4) rfl rfl Try.func62 #[.agg #[.slice A0_0 l0_0.length c0_0]] ?_; (with_reducible refine (impl_RxOk.calls k _ _ l0_0 true _ ?side1 ?side2 A2.o).mono ?_); (case side1 => exact Kd.C_below HR0_0.o (be_ HB.o)); (case side2 => exact HC0_0.o); rintro e w9 ⟨rfl, hb⟩; refine ⟨_, rfl, ?_⟩; replace BK101 := lb_ BK101 hb; replace HB := sb1_ HB GE101 hb; (try clear hb)))
  replace BK101 := q_ (blk_drew BK101.o); replace HB := q_ (below_drew1 HB.o)
  refine start_ (n := 6) (S := fun w' => w'.cell? ⟨gb101, 0, none⟩ = some (.slice A0_0 l0_0.length c0_0)) (ds := []) (bb 6 0) (by kernel_rfl) rfl rfl ((blk_cell BK101.o 0).trans rfl) (fun hHeld => ?_)
  generalize w9.drew = w10 at BK101 HB hHeld ⊢
  refine tk_ 0 6 1 hHeld ?_; refine tk_ 1 7 3 hHeld ?_
  refine one_ (i := 2) (N := some 8) (bb 6 7) rfl rfl (by kernel_rfl) (by decide) (fun K hK => ?_)
  refine gs_ Try.func64 #[.agg #[.slice A0_0 l0_0.length c0_0]] ?_
  with_reducible refine (impl_Rx_last.calls _ _ l0_0 t103 _ ?side1 ?side2 A4.o).mono ?_
  (case side1 => exact Kd.C_below HR0_0.o (be_ HB.o))
  (case side2 => exact HC0_0.o)
  rintro e w11 ⟨rfl, hb⟩
  refine ⟨_, rfl, ?_⟩; replace BK101 := lb_ BK101 hb; replace HB := sb1_ HB GE101 hb
  (try clear hb)
  (try clear hb2)
  (try clear hk)
  (try clear hi)
  refine hK.out _ _ ((blk_cell BK101.o 0).trans rfl) (fun hHeld => ?_)
  clear hK K; refine no_ (some 8) ?_
  refine one_ (i := 3) (N := some 9) (bb 6 15) rfl rfl (by kernel_rfl) (by decide) (fun K hK => ?_)
  refine gs_ Try.func71 #[.agg #[.slice A0_0 l0_0.length c0_0], .int .i64 t103] ?_
  with_reducible refine (impl_Rx_first.calls k (fun k_ => k_ < w.heap.size) _ _ l0_0 t103 t104 _ ?side1 A5.o).mono ?_
  (case side1 => exact Kd.V_mk HC0_0.o (Kd.F_below (Kd.C_F k156_heap HR0_0.o) (be1_ HB.o GE101.o)))
  rintro e w12 ⟨v105, rfl, ho0, hb⟩
  refine ⟨_, rfl, ?_⟩
  have HO106 := q_ (Kd.V_lower (Kd.V_mono (ok' := fun k_ => k_ ≠ gb101) ho0 (fun k_ hk_ => Or.elim hk_ (fun hs_ => fun e_ => Nat.not_le.2 hs_ (by rw [e_]; exact GW101.o)) (fun hn_ => (Kd.freshB (g := gb101) (o := .cells #[.slice A0_0 l0_0.length c0_0] 29 (0, 0)) (bk_ BK101.o) k_ hn_)))) (below_size (be1_ HB.o GE101.o)))
  replace BK101 := lb_ BK101 hb; replace HB := sb1_ HB GE101 hb
  (try clear hb)
  (try clear hb2)
  (try clear hk)
  (try clear hi)
  (try clear ho0)
  obtain ⟨Ao13, co13, eo13⟩ := Kd.V_slice HO106.o
  (first | subst eo13 | (injection eo13 with f1_ f2_ f3_; have f4_ := f1_.symm; have f5_ := f3_.symm; clear f1_ f2_ f3_; subst f4_; subst f5_))
  refine hK.out _ _ ((blk_cell BK101.o 0).trans rfl) (fun hHeld => ?_)
  clear hK K; refine no_ (some 9) ?_
  refine one_ (i := 4) (N := some 10) (bb 6 31) rfl rfl (by kernel_rfl) (by decide) (fun K hK => ?_)
  refine gs_ Try.func70 #[.slice Ao13 t104.length co13, .slice none 0 0] ?_
  refine (impl_Joined.calls _ _ t104 _ _ ([] : List (S103)) t107 _ ?side1 ?side2 ?side3 ?side4 A6.o).mono ?_
  (case side1 => repeat (first | exact (Kd.V_reads' HO106.o).2.2 | (with_reducible refine Kd.C_alloc ?_ _) | (with_reducible refine Kd.C_drewN ?_ _) | (with_reducible refine Kd.C_drew ?_)))
  (case side2 => exact (Kd.V_reads' HO106.o).2.1)
  (case side3 => exact Kd.C_nil _ _)
  (case side4 => exact Nat.le_refl _)
  rintro e w14 ⟨v108, rfl, ho0, hb⟩
  refine ⟨_, rfl, ?_⟩; have HO109 := q_ (Kd.R_lower ho0 (below_size (be1_ HB.o GE101.o)))
  replace HO106 := q_ (Kd.V_elder' (by (with_reducible repeat (first | apply Kd.V_alloc | apply Kd.V_drewN | apply Kd.V_drew)); exact HO106.o) (Kd.R_base ho0) hb)
  replace BK101 := lb_ BK101 hb; replace HB := sb1_ HB GE101 hb
  (try clear hb)
  (try clear hb2)
  (try clear hk)
  (try clear hi)
  (try clear ho0)
  refine hK.out _ _ ((blk_cell BK101.o 0).trans rfl) (fun hHeld => ?_)
  clear hK K; refine no_ (some 10) ?_; refine pk_ 5 2 63 ?_
  refine done_ (by kernel_rfl) ?_
  try go_wp2
  go_ret
  exact ⟨_, rt_, ra_ HO109.o, be1_ HB.o GE101.o⟩
 ·replace c3 := Bool.eq_false_iff.mpr c3; subst c3; rw [if_neg nft_] at H; obtain rfl := Option.some.inj H
  go_enter Try.func20, Try.ntmps20
  go_wp2_with (first | ((with_reducible refine gate_dst (N := 1) rfl ?_); refine bx_ 1 #[.slice A0_0 l0_0.length c0_0] 29 ?_; intro gb101 hg w15 hbox hb; have BK101 := q_ (hbox); have GW101 := ge_ hg HB; have GE101 := GW101; replace HB := sb_ HB hb; clear hb hbox hg; obtain ⟨hcz16_0, hfz16_0⟩ := d1_ BK101) | ((with_reducible refine gate_callee (f := 62) rfl ?_); refine gl_ (some 4) rfl rfl Try.func62 #[.agg #[.slice A0_0 l0_0.length c0_0]] ?_; (with_reducible refine (impl_RxOk.calls k _ _ l0_0 false _ ?side1 ?side2 A2.o).mono ?_); (case side1 => exact Kd.C_below HR0_0.o (be_ HB.o)); (case side2 => exact HC0_0.o); rintro e w17 ⟨rfl, hb⟩; refine ⟨_, rfl, ?_⟩; replace BK101 := lb_ BK101 hb; replace HB := sb1_ HB GE101 hb; (try clear hb)))
  go_ret
  exact ⟨_, rt_, by first | exact Kd.R_nil _ _ _ _ _ | exact Kd.N_nil _ _ _ _ _ | exact Kd.V_nil _ _ _ _ _ | exact Kd.Q_nil _ _ _ _ _ | exact Kd.S_nil _ _ _ _ _, be1_ HB.o GE101.o⟩
/-! ### spec_l1Marks: function 169 -/
mutual
def spec_l1Marks.l0 : Nat → List (S103) → List Bool → Int → Option (List Bool)
 | 0, _, _, _ => none
 | k + 1, x0, x3, x4 => if x4 < (x0.length : Int) then (if 0 ≤ x4 then (spec_l1Marks.l1 k x0 x3 x4 ((rd_T103 x0 x4).f0)) else (none)) else (some x3)
def spec_l1Marks.l1 : Nat → List (S103) → List Bool → Int → Int → Option (List Bool)
 | 0, _, _, _, _ => none
 | k + 1, x0, x3, x4, x5 => if 0 ≤ x4 then (if x4 < (x0.length : Int) then (if x5 ≤ ((rd_T103 x0 x4).f1) then (if 0 ≤ x5 then (if x5 < (x3.length : Int) then (spec_l1Marks.l1 k x0 (x3.set (x5 : Int).toNat true) x4 (wrap64 (x5 + 1))) else (none)) else (none)) else (spec_l1Marks.l0 k x0 x3 (wrap64 (x4 + 1)))) else (none)) else (none)
end
def spec_l1Marks.f (k : Nat) (l0 : List (S103)) : Option (List Bool) := if 256 ≤ 281474976710656 then (spec_l1Marks.l0 k l0 (List.replicate 256 false) 0) else (none)
theorem spec_l1Marks.calls (k : Nat) (A0 : Option Addr) (c0 : Nat) (l0 : List (S103)) (r : List Bool) (w : World) (hr0 : Kd.C k103 w A0 l0.length l0) (hc0 : l0.length ≤ c0) (h : spec_l1Marks.f k l0 = some r) :
  Calls Try.prog 169 #[.slice A0 l0.length c0] w fun e w' => ∃ v0_ : Value, e = .returned (v0_) ∧ Kd.R Kd.bool 4 w' w.heap.size (fun _ => True) v0_ r ∧ Below w.heap.size w w' := by
 have HR0 := q_ hr0; have HC0 := q_ hc0; clear hr0 hc0; have HB := q_ (Below.refl w.heap.size w)
 have H : (if 256 ≤ 281474976710656 then (spec_l1Marks.l0 k l0 (List.replicate 256 false) 0) else (none)) = some r := h
 clear h
 by_cases c2 : 256 ≤ 281474976710656
 ·rw [if_pos c2] at H; have c2b0 := eq_true c2; have c2b1 := dt_ c2; clear c2
  obtain ⟨y101, hy101⟩ : ∃ y_ : List Bool, y_ = (List.replicate 256 false) := ⟨_, rfl⟩
  replace H : (spec_l1Marks.l0 k l0 y101 0) = some r := by first | (rw [hy101]; with_reducible exact H) | (have H2_ := (Option.bind_some _ _).symm.trans H; rw [hy101]; with_reducible exact H2_) | (have H2_ := (Option.bind_some _ _).symm.trans H; with_reducible exact H2_) | with_reducible exact H | (rw [hy101]; exact H) | exact H
  have Ny101 := q_ hy101; clear hy101
  have H' := q_ H
  clear H
  go_enter Try.func169, Try.ntmps169
  go_wp2_with (first | ((with_reducible refine gate_dst (N := 6) rfl ?_); refine Kd.R_make Kd.bool _ 4 rfl (N := 6) rfl 124 _ _ rfl 256 rfl rfl Try.underlying124 (.bool false) 1 info4 rfl (by decide) (by omega) false (ok := fun _ => True) (okp := fun _ => True) rfl (fun _ hk => hk) trivial (by omega) (by omega) (Below.refl _ _) (Nat.le_refl _) ?_; intro v102 w3 ho4 hb hg_ hnew_; clear hg_ hnew_; (first | rw [← Ny101.o] at ho4 | (simp only [Int.reduceToNat] at ho4; rw [← Ny101.o] at ho4)); have HO103 := q_ (Kd.R_lower ho4 (below_size (be_ HB.o))); replace HB := sb_ HB hb; clear hb ho4))
  go_loopg [4] k (fun kq v4 w' => ∃ (x3_1 : List Bool) (x4_1 : Int), v4 = .int .i64 x4_1 ∧ J0 (spec_l1Marks.l0 kq l0 x3_1 x4_1 = some r) ∧ J0 (kq ≤ k) ∧ J0 (Kd.R Kd.bool 4 w' w.heap.size (fun _ => True) v102 x3_1) ∧ J0 (Below w.heap.size w w'))
  case atStart => exact ⟨(y101), (0), rs_, H', ⟨Nat.le_refl _⟩, ⟨ra_ HO103.o⟩, ⟨be_ HB.o⟩⟩
  case round =>
   clear H'; (try clear c2); (try clear c2b0); (try clear c2b1); obtain ⟨x3_1, x4_1, rfl, HA, HK1, HO_3, HB⟩ := hrel
   cases gk with
   | zero => exact absurd HA.o (by simp [spec_l1Marks.l0])
   | succ k1 =>
    have H := HA.o; clear HA
    simp only [spec_l1Marks.l0] at H
    by_cases c5 : x4_1 < (l0.length : Int)
    ·rw [if_pos c5] at H; have c5b0 := dt_ c5; clear c5
     by_cases c6 : 0 ≤ x4_1
     ·rw [if_pos c6] at H; have c6b0 := dt_ c6; clear c6
      have H' := q_ H
      clear H
      have p104 : 0 ≤ (x4_1 : Int) := of_decide_eq_true as_
      have q104 : x4_1 < (l0.length : Int) := of_decide_eq_true as_
      obtain ⟨ad104, e104, hx104_0, hx104_1⟩ := at_T103 HR0.o x4_1 p104 q104
      cases e104
      replace hx104_0 := mv_ HB.o hx104_0; replace hx104_1 := mv_ HB.o hx104_1; replace p104 := eq_true p104; replace q104 := eq_true q104
      go_wp2
      go_loopg [5] k1 (fun kq v5 w' => ∃ (x3_2 : List Bool) (x5_2 : Int), v5 = .int .i64 x5_2 ∧ J0 (spec_l1Marks.l1 kq l0 x3_2 x4_1 x5_2 = some r) ∧ J0 (kq ≤ k1) ∧ J0 (Kd.R Kd.bool 4 w' w.heap.size (fun _ => True) v102 x3_2) ∧ J0 (Below w.heap.size w w'))
      case atStart => exact ⟨(x3_1), ((rd_T103 l0 x4_1).f0), rs_, H', ⟨Nat.le_refl _⟩, ⟨ra_ HO_3.o⟩, ⟨be_ HB.o⟩⟩
      case round =>
       clear H'; (try clear c2); (try clear c2b0); (try clear c2b1); (try clear c5); (try clear c5b0); (try clear c6); (try clear c6b0); (try clear hx104_0); (try clear hx104_1); (try clear p104); (try clear q104); obtain ⟨x3_2, x5_2, rfl, HA, HK2, HO_3, HB⟩ := hrel
       cases gk with
       | zero => exact absurd HA.o (by simp [spec_l1Marks.l1])
       | succ k2 =>
        have H := HA.o; clear HA
        simp only [spec_l1Marks.l1] at H
        by_cases c7 : 0 ≤ x4_1
        ·rw [if_pos c7] at H; have c7b0 := dt_ c7; clear c7
         by_cases c8 : x4_1 < (l0.length : Int)
         ·rw [if_pos c8] at H; have c8b0 := dt_ c8; clear c8
          by_cases c9 : x5_2 ≤ ((rd_T103 l0 x4_1).f1)
          ·rw [if_pos c9] at H; have c9b0 := dt_ c9; clear c9
           by_cases c10 : 0 ≤ x5_2
           ·rw [if_pos c10] at H; have c10b0 := dt_ c10; clear c10
            by_cases c11 : x5_2 < (x3_2.length : Int)
            ·rw [if_pos c11] at H; have c11b0 := dt_ c11; clear c11
             obtain ⟨y106, hy106⟩ : ∃ y_ : List Bool, y_ = (x3_2.set (x5_2 : Int).toNat true) := ⟨_, rfl⟩
             replace H : (spec_l1Marks.l1 k2 l0 y106 x4_1 (wrap64 (x5_2 + 1))) = some r := by first | (rw [hy106]; with_reducible exact H) | (have H2_ := (Option.bind_some _ _).symm.trans H; rw [hy106]; with_reducible exact H2_) | (have H2_ := (Option.bind_some _ _).symm.trans H; with_reducible exact H2_) | with_reducible exact H | (rw [hy106]; exact H) | exact H
             have Ny106 := q_ hy106; clear hy106
             have H' := q_ H
             clear H
             have p105 : 0 ≤ (x4_1 : Int) := of_decide_eq_true as_
             have q105 : x4_1 < (l0.length : Int) := of_decide_eq_true as_
             obtain ⟨ad105, e105, hx105_0, hx105_1⟩ := at_T103 HR0.o x4_1 p105 q105
             obtain rfl : ad104 = ad105 := (by injection e105)
             replace hx105_0 := mv_ HB.o hx105_0; replace hx105_1 := mv_ HB.o hx105_1; replace p105 := eq_true p105; replace q105 := eq_true q105
             have p12 : 0 ≤ (x5_2 : Int) := of_decide_eq_true as_
             have q12 : (x5_2 : Int) < ((x3_2.length : Int) : Int) := of_decide_eq_true as_
             obtain ⟨go12, co12, eo12, gb12, gl12, cl12, HG12⟩ := Kd.R_form HO_3.o (by omega)
             (first | cases eo12 | (injection eo12 with ea_ en_ ec_; (first | subst ea_ | (injection ea_ with ea_; subst ea_)); subst ec_; clear en_))
             have GB12 := q_ gb12; have GG12 := q_ HG12; clear gb12 gl12 HG12; obtain ⟨hx12_0, hf12_0⟩ := Kd.R_celln false HO_3.o (x5_2 : Int) p12 q12; replace p12 := eq_true p12; replace q12 := eq_true q12; have HP13 := Kd.R_putg HO_3.o (x5_2 : Int) true
             go_wp2_with (first | ((with_reducible refine gate_store (t := 4) (p := 29) rfl ?_); refine store_event (t := 4) (p := 29) (v := ?vo_w14) (w1 := (wr.setCell ⟨go12, (x5_2 : Int).toNat, none⟩ (.bool true))) ?hg ?ho ?hn ?hr ?_; (case ho => rfl); (case hg => rfl); (case hn => rfl); (case hr => first | (go_simp; done) | (go_simp; rfl)); intro w14 hw; have hg : wr.grownBy w14 (some go12) := (by rw [hw]; exact HP13.2); have hp_ : Kd.R Kd.bool 4 w14 w.heap.size (fun _ => True) (.slice (some ⟨go12, 0, none⟩) x3_2.length co12) y106 := (by rw [hw, Ny106.o]; exact HP13.1); clear HP13; replace HO_3 := q_ (hp_); replace HB := q_ ((by rw [hw]; exact below_set (HB.o) GB12.out : Below w.heap.size w w14)); clear hg hw hp_))
             go_roundg k2
             case measure => have := HK1.o; have := HK2.o; omega
             case rel => exact ⟨(y106), (wrap64 (x5_2 + 1)), rs_, H', ⟨by have := HK1.o; have := HK2.o; omega⟩, ⟨ra_ HO_3.o⟩, ⟨be_ HB.o⟩⟩
            ·rw [if_neg c11] at H
             exact absurd H (by simp)
           ·rw [if_neg c10] at H
            exact absurd H (by simp)
          ·rw [if_neg c9] at H; have c9b0 := df_ c9; clear c9
           have H' := q_ H
           clear H
           have p105 : 0 ≤ (x4_1 : Int) := of_decide_eq_true as_
           have q105 : x4_1 < (l0.length : Int) := of_decide_eq_true as_
           obtain ⟨ad105, e105, hx105_0, hx105_1⟩ := at_T103 HR0.o x4_1 p105 q105
           obtain rfl : ad104 = ad105 := (by injection e105)
           replace hx105_0 := mv_ HB.o hx105_0; replace hx105_1 := mv_ HB.o hx105_1; replace p105 := eq_true p105; replace q105 := eq_true q105
           go_wp2
           go_roundg k2
           case measure => have := HK1.o; have := HK2.o; omega
           case rel => exact ⟨(x3_2), (wrap64 (x4_1 + 1)), rs_, H', ⟨by have := HK1.o; have := HK2.o; omega⟩, ⟨ra_ HO_3.o⟩, ⟨be_ HB.o⟩⟩
         ·rw [if_neg c8] at H
          exact absurd H (by simp)
        ·rw [if_neg c7] at H
         exact absurd H (by simp)
     ·rw [if_neg c6] at H
      exact absurd H (by simp)
    ·rw [if_neg c5] at H; have c5b0 := df_ c5; clear c5; obtain rfl := Option.some.inj H
     go_wp2
     go_ret
     exact ⟨_, rt_, ra_ HO_3.o, be_ HB.o⟩
 ·rw [if_neg c2] at H
  exact absurd H (by simp)
/-! ### spec_l1Class: function 173 -/
def spec_l1Class.l0 : Nat → List Bool → List (S103) → Int → Option ((List (S103)))
 | 0, _, _, _ => none
 | k + 1, x0, x3, x4 => if x4 < 256 then (if 0 ≤ x4 then (if x4 < (x0.length : Int) then (if rdOf false x0 x4 = true then (if (x3.length : Int) > 0 then (if 0 ≤ (wrap64 ((x3.length : Int) - 1)) then (if (wrap64 ((x3.length : Int) - 1)) < (x3.length : Int) then (if ((rd_T103 x3 (wrap64 ((x3.length : Int) - 1))).f1) = (wrap64 (x4 - 1)) then (spec_l1Class.l0 k x0 (x3.set ((wrap64 ((x3.length : Int) - 1)) : Int).toNat (⟨(rd_T103 x3 (wrap64 ((x3.length : Int) - 1))).f0, x4⟩ : S103)) (wrap64 (x4 + 1))) else (if x3.length < 8796093022208 then (spec_l1Class.l0 k x0 (x3 ++ [(⟨x4, x4⟩ : S103)]) (wrap64 (x4 + 1))) else (none))) else (none)) else (none)) else (if x3.length < 8796093022208 then (spec_l1Class.l0 k x0 (x3 ++ [(⟨x4, x4⟩ : S103)]) (wrap64 (x4 + 1))) else (none))) else (spec_l1Class.l0 k x0 x3 (wrap64 (x4 + 1)))) else (none)) else (none)) else (some x3)
def spec_l1Class.f (k : Nat) (l0 : List Bool) : Option ((List (S103))) := spec_l1Class.l0 k l0 (([] : List (S103))) 0
theorem spec_l1Class.calls (k : Nat) (A0 : Option Addr) (c0 : Nat) (l0 : List Bool) (r : List (S103)) (w : World) (hr0 : Kd.C Kd.bool w A0 l0.length l0) (hc0 : l0.length ≤ c0) (h : spec_l1Class.f k l0 = some r) :
  Calls Try.prog 173 #[.slice A0 l0.length c0] w fun e w' => ∃ v0_ : Value, e = .returned (v0_) ∧ Kd.R k103 103 w' w.heap.size (fun _ => True) v0_ r ∧ Below w.heap.size w w' := by
 have hu103 := Try.underlying103; have HR0 := q_ hr0; have HC0 := q_ hc0; clear hr0 hc0; have HB := q_ (Below.refl w.heap.size w)
 have H : (spec_l1Class.l0 k l0 (([] : List (S103))) 0) = some r := h
 clear h
 obtain ⟨y101, hy101⟩ : ∃ y_ : List (S103), y_ = (([] : List (S103))) := ⟨_, rfl⟩
 replace H : (spec_l1Class.l0 k l0 y101 0) = some r := by first | (rw [hy101]; with_reducible exact H) | (have H2_ := (Option.bind_some _ _).symm.trans H; rw [hy101]; with_reducible exact H2_) | (have H2_ := (Option.bind_some _ _).symm.trans H; with_reducible exact H2_) | with_reducible exact H | (rw [hy101]; exact H) | exact H
 have Ny101 := q_ hy101; clear hy101
 have H' := q_ H
 clear H
 go_enter Try.func173, Try.ntmps173
 go_wp2_with (first | ((with_reducible refine gate_dst (N := 5) rfl ?_); (try (refine gate_guard (by rfl) ?_; dsimp only)); refine Kd.R_lit k103 _ 103 ?hg (N := 5) ?hd (xs := ([] : List (S103))) (inner := []) (ok := fun _ => True) (okp := fun _ => True) ?hr ?hp (fun _ hk => hk) trivial (Below.refl _ _) (Nat.le_refl _) (by simp) ?_; (case hd => rfl); (case hg => rfl); (case hr => first | (go_simp; done) | (go_simp; rfl)); (case hp => exact (Reps.none _ _)); intro v102 w2 ho3 hb hg_ hnew_; clear hg_ hnew_; (first | rw [← Ny101.o] at ho3 | (simp only [Int.reduceToNat] at ho3; rw [← Ny101.o] at ho3)); have HO103 := q_ (Kd.R_lower ho3 (below_size (be_ HB.o))); replace HB := sb_ HB hb; clear hb ho3))
 go_loopg [3, 4] k (fun kq v3 v4 w' => ∃ (x3_1 : List (S103)) (x4_1 : Int), v4 = .int .i64 x4_1 ∧ J0 (spec_l1Class.l0 kq l0 x3_1 x4_1 = some r) ∧ J0 (kq ≤ k) ∧ J0 (Kd.R k103 103 w' w.heap.size (fun _ => True) v3 x3_1) ∧ J0 (Below w.heap.size w w'))
 case atStart => exact ⟨(y101), (0), rs_, H', ⟨Nat.le_refl _⟩, ⟨ra_ HO103.o⟩, ⟨be_ HB.o⟩⟩
 case round =>
  clear H'; obtain ⟨x3_1, x4_1, rfl, HA, HK1, HO_3, HB⟩ := hrel
  cases gk with
  | zero => exact absurd HA.o (by simp [spec_l1Class.l0])
  | succ k1 =>
   have H := HA.o; clear HA
   simp only [spec_l1Class.l0] at H
   by_cases c4 : x4_1 < 256
   ·rw [if_pos c4] at H; have c4b0 := dt_ c4; clear c4
    by_cases c5 : 0 ≤ x4_1
    ·rw [if_pos c5] at H; have c5b0 := dt_ c5; clear c5
     by_cases c6 : x4_1 < (l0.length : Int)
     ·rw [if_pos c6] at H; have c6b0 := dt_ c6; clear c6
      obtain ⟨bq7, hbq7⟩ : ∃ b_ : Bool, b_ = (rdOf false l0 x4_1) := ⟨_, rfl⟩
      replace H : (if bq7 = true then (if (x3_1.length : Int) > 0 then (if 0 ≤ (wrap64 ((x3_1.length : Int) - 1)) then (if (wrap64 ((x3_1.length : Int) - 1)) < (x3_1.length : Int) then (if ((rd_T103 x3_1 (wrap64 ((x3_1.length : Int) - 1))).f1) = (wrap64 (x4_1 - 1)) then (spec_l1Class.l0 k1 l0 (x3_1.set ((wrap64 ((x3_1.length : Int) - 1)) : Int).toNat (⟨(rd_T103 x3_1 (wrap64 ((x3_1.length : Int) - 1))).f0, x4_1⟩ : S103)) (wrap64 (x4_1 + 1))) else (if x3_1.length < 8796093022208 then (spec_l1Class.l0 k1 l0 (x3_1 ++ [(⟨x4_1, x4_1⟩ : S103)]) (wrap64 (x4_1 + 1))) else (none))) else (none)) else (none)) else (if x3_1.length < 8796093022208 then (spec_l1Class.l0 k1 l0 (x3_1 ++ [(⟨x4_1, x4_1⟩ : S103)]) (wrap64 (x4_1 + 1))) else (none))) else (spec_l1Class.l0 k1 l0 x3_1 (wrap64 (x4_1 + 1)))) = some r := by rw [← hbq7] at H; exact H
      have Nbq7 := q_ hbq7; clear hbq7
      by_cases c8 : bq7 = true
      ·subst c8; rw [if_pos rfl] at H
       by_cases c9 : (x3_1.length : Int) > 0
       ·rw [if_pos c9] at H
        have c9b0 : decide (0 < (x3_1.length : Int)) = true := dt_ c9
        have c9b1 : decide (0 < x3_1.length) = true := decide_eq_true (by omega)
        clear c9
        obtain ⟨ji10, hji10⟩ : ∃ j_ : Int, (wrap64 ((x3_1.length : Int) - 1)) = j_ := ⟨_, rfl⟩
        replace H : (if 0 ≤ (ji10) then (if (ji10) < (x3_1.length : Int) then (if ((rd_T103 x3_1 (ji10)).f1) = (wrap64 (x4_1 - 1)) then (spec_l1Class.l0 k1 l0 (x3_1.set ((ji10) : Int).toNat (⟨(rd_T103 x3_1 (ji10)).f0, x4_1⟩ : S103)) (wrap64 (x4_1 + 1))) else (if x3_1.length < 8796093022208 then (spec_l1Class.l0 k1 l0 (x3_1 ++ [(⟨x4_1, x4_1⟩ : S103)]) (wrap64 (x4_1 + 1))) else (none))) else (none)) else (none)) = some r := by first | (rw [hji10] at H; exact H) | (simp only [hji10] at H ⊢; exact H)
        have hji10w : (IntKind.i64.wrap ((x3_1.length : Int) - 1)) = ji10 := (i64_w _).trans hji10
        by_cases c11 : 0 ≤ (ji10)
        ·rw [if_pos c11] at H; have c11b0 := dt_ c11; clear c11
         by_cases c12 : (ji10) < (x3_1.length : Int)
         ·rw [if_pos c12] at H; have c12b0 := dt_ c12; clear c12
          by_cases c13 : ((rd_T103 x3_1 (ji10)).f1) = (wrap64 (x4_1 - 1))
          ·rw [if_pos c13] at H
           have c13b0 : (((rd_T103 x3_1 (ji10)).f1) == (wrap64 (x4_1 - 1))) = true := beq_iff_eq.mpr c13
           have c13b1 : (((rd_T103 x3_1 (ji10)).f1) != (wrap64 (x4_1 - 1))) = false := bne_eq_false_iff_eq.mpr c13
           clear c13
           obtain ⟨y106, hy106⟩ : ∃ y_ : List (S103), y_ = (x3_1.set ((ji10) : Int).toNat (⟨(rd_T103 x3_1 (ji10)).f0, x4_1⟩ : S103)) := ⟨_, rfl⟩
           replace H : (spec_l1Class.l0 k1 l0 y106 (wrap64 (x4_1 + 1))) = some r := by first | (rw [hy106]; with_reducible exact H) | (have H2_ := (Option.bind_some _ _).symm.trans H; rw [hy106]; with_reducible exact H2_) | (have H2_ := (Option.bind_some _ _).symm.trans H; with_reducible exact H2_) | with_reducible exact H | (rw [hy106]; exact H) | exact H
           have Ny106 := q_ hy106; clear hy106
           have H' := q_ H
           clear H
           have p104 : 0 ≤ (x4_1 : Int) := of_decide_eq_true as_
           have q104 : x4_1 < (l0.length : Int) := of_decide_eq_true as_
           obtain ⟨ad104, e104, hx104_0⟩ := Kd.at_bool HR0.o x4_1 p104 q104
           (try rw [← Nbq7.o] at hx104_0)
           cases e104
           replace hx104_0 := mv_ HB.o hx104_0; replace p104 := eq_true p104; replace q104 := eq_true q104; obtain ⟨Ao15, co15, eo15⟩ := Kd.R_slice HO_3.o; subst eo15
           have p105 : 0 ≤ ((ji10) : Int) := of_decide_eq_true as_
           have q105 : (ji10) < (x3_1.length : Int) := of_decide_eq_true as_
           obtain ⟨ad105, e105, hx105_0, hx105_1⟩ := at_T103 (Kd.R_reads' HO_3.o).2.2 (ji10) p105 q105
           cases e105
           replace p105 := eq_true p105; replace q105 := eq_true q105
           have p14 : 0 ≤ ((ji10) : Int) := of_decide_eq_true as_
           have q14 : ((ji10) : Int) < ((x3_1.length : Int) : Int) := of_decide_eq_true as_
           obtain ⟨go14, co14, eo14, gb14, gl14, cl14, HG14⟩ := Kd.R_form HO_3.o (by omega)
           (first | cases eo14 | (injection eo14 with ea_ en_ ec_; (first | subst ea_ | (injection ea_ with ea_; subst ea_)); subst ec_; clear en_))
           have GB14 := q_ gb14; have GG14 := q_ HG14; clear gb14 gl14 HG14
           (first | simp only [add_plain] at hx105_0 | skip)
           (first | simp only [add_plain] at hx105_1 | skip)
           obtain ⟨ce14, hcl14, hM14, hcc14, hfr14⟩ := Kd.R_elem HO_3.o z103 ((ji10) : Int) p14 q14
           obtain rfl := k103_openM hM14
           have hx14_0 : wr.cell? ⟨go14, ((ji10) : Int).toNat * 2, none⟩ = some (.int .i64 ((rd_T103 x3_1 (ji10)).f0)) := hcc14 0 _ rfl
           have hx14_1 : wr.cell? ⟨go14, ((ji10) : Int).toNat * 2 + 1, none⟩ = some (.int .i64 ((rd_T103 x3_1 (ji10)).f1)) := hcc14 1 _ rfl
           have hf14_0 : wr.frozen? ⟨go14, ((ji10) : Int).toNat * 2, none⟩ = false := hfr14 0
           have hf14_1 : wr.frozen? ⟨go14, ((ji10) : Int).toNat * 2 + 1, none⟩ = false := hfr14 1
           clear hcl14 hcc14 hfr14 hM14; replace p14 := eq_true p14; replace q14 := eq_true q14
           have HX16 := q_ (show Kd.R k103 103 wr w.heap.size (fun _ => True) (.slice (some ⟨go14, 0, none⟩) x3_1.length co15) x3_1 from (ra_ HO_3.o))
           obtain ⟨ce16, hcl16, hM16, hcc16, hfr16⟩ := Kd.R_elem HX16.o z103 ((ji10) : Int) (of_decide_eq_true as_) (by have h_ : ((ji10) : Int) < ((x3_1.length : Int) : Int) := of_decide_eq_true as_; first | exact h_ | (have e_ := (Kd.R_reads' HO_3.o).1; omega) | simpa using h_)
           obtain rfl := k103_openM hM16
           have HP16 := Kd.R_seg HX16.o ((ji10) : Int) (of_decide_eq_true as_) (by have h_ : ((ji10) : Int) < ((x3_1.length : Int) : Int) := of_decide_eq_true as_; first | exact h_ | (have e_ := (Kd.R_reads' HO_3.o).1; omega) | simpa using h_) (seg := [.int .i64 x4_1]) (j := 1) hcl16 hcc16 (show 2 ≤ 2 from by decide) (x' := (⟨(rd_T103 x3_1 (ji10)).f0, x4_1⟩ : S103)) (k103_mkM _ _ _ (⟨(rd_T103 x3_1 (ji10)).f0, x4_1⟩ : S103) ) (fun _ hk => hk)
           have hx16_1 := hcc16 1 _ rfl
           (try simp only [show (k103).sz = 2 from rfl, Nat.mul_one, Nat.add_zero] at hx16_1)
           have hf16_1 := hfr16 1
           (try simp only [show (k103).sz = 2 from rfl, Nat.mul_one, Nat.add_zero] at hf16_1)
           clear hcl16 hcc16 hfr16 hM16
           go_wp2_with (first | ((with_reducible refine gate_store (t := 2) (p := 36) rfl ?_); refine store_event (t := 2) (p := 36) (v := ?vo_w17) (w1 := (wr.setCell ⟨go14, ((ji10) : Int).toNat * 2 + 1, none⟩ (.int .i64 x4_1))) ?hg ?ho ?hn ?hr ?_; (case ho => rfl); (case hg => rfl); (case hn => rfl); (case hr => first | (go_simp; done) | (go_simp; rfl)); intro w17 hw; have hg : wr.grownBy w17 (some go14) := (by rw [hw]; exact HP16.2); have hp_ : Kd.R k103 103 w17 w.heap.size (fun _ => True) (.slice (some ⟨go14, 0, none⟩) x3_1.length co15) y106 := (by rw [hw, Ny106.o]; exact HP16.1); clear HP16; replace HO_3 := q_ (hp_); replace HB := q_ ((by rw [hw]; exact below_set (HB.o) GB14.out : Below w.heap.size w w17)); clear hg hw hp_))
           go_roundg k1
           case measure => have := HK1.o; omega
           case rel => exact ⟨(y106), (wrap64 (x4_1 + 1)), rs_, H', ⟨by have := HK1.o; omega⟩, ⟨ra_ HO_3.o⟩, ⟨be_ HB.o⟩⟩
          ·rw [if_neg c13] at H
           have c13b0 : (((rd_T103 x3_1 (ji10)).f1) == (wrap64 (x4_1 - 1))) = false := beq_eq_false_iff_ne.mpr c13
           have c13b1 : (((rd_T103 x3_1 (ji10)).f1) != (wrap64 (x4_1 - 1))) = true := bne_iff_ne.mpr c13
           by_cases c18 : x3_1.length < 8796093022208
           ·rw [if_pos c18] at H; have LMc18 := q_ c18; clear c18
            obtain ⟨y107, hy107⟩ : ∃ y_ : List (S103), y_ = (x3_1 ++ [(⟨x4_1, x4_1⟩ : S103)]) := ⟨_, rfl⟩
            replace H : (spec_l1Class.l0 k1 l0 y107 (wrap64 (x4_1 + 1))) = some r := by first | (rw [hy107]; with_reducible exact H) | (have H2_ := (Option.bind_some _ _).symm.trans H; rw [hy107]; with_reducible exact H2_) | (have H2_ := (Option.bind_some _ _).symm.trans H; with_reducible exact H2_) | with_reducible exact H | (rw [hy107]; exact H) | exact H
            have Ny107 := q_ hy107; clear hy107
            have H' := q_ H
            clear H
            have p104 : 0 ≤ (x4_1 : Int) := of_decide_eq_true as_
            have q104 : x4_1 < (l0.length : Int) := of_decide_eq_true as_
            obtain ⟨ad104, e104, hx104_0⟩ := Kd.at_bool HR0.o x4_1 p104 q104
            (try rw [← Nbq7.o] at hx104_0)
            cases e104
            replace hx104_0 := mv_ HB.o hx104_0; replace p104 := eq_true p104; replace q104 := eq_true q104; obtain ⟨Ao19, co19, eo19⟩ := Kd.R_slice HO_3.o; subst eo19
            have p105 : 0 ≤ ((ji10) : Int) := of_decide_eq_true as_
            have q105 : (ji10) < (x3_1.length : Int) := of_decide_eq_true as_
            obtain ⟨ad105, e105, hx105_0, hx105_1⟩ := at_T103 (Kd.R_reads' HO_3.o).2.2 (ji10) p105 q105
            cases e105
            replace p105 := eq_true p105; replace q105 := eq_true q105
            go_wp2_with (first | ((with_reducible refine gate_builtin (b := .append) (xs := #[.tmp 37, .tmp 41]) rfl ?_); (try (refine gate_guard (by rfl) ?_; dsimp only)); at_builtin; refine Kd.R_append k103 (w0 := w) w.heap.size rfl (.tmp 37) (.tmp 41) 34 103 (.agg #[(.int .i64 0), (.int .i64 0)]) 16 rfl Try.underlying34 info103 rfl (by decide) (by omega) (.slice (some ad105) x3_1.length co19) x3_1 (⟨x4_1, x4_1⟩ : S103) [.int .i64 x4_1, .int .i64 x4_1] (fun _ => True) (fun _ => False) rfl rfl ?aP (fun _ hk => hk.elim) ?aF ?aO ?aB ?aS ?aL ?_; (case aP => exact k103_mkM _ _ _ (⟨x4_1, x4_1⟩ : S103)); (case aB => exact (be_ HB.o)); (case aF => exact (fun _ _ => trivial)); (case aO => exact (ra_ HO_3.o)); (case aS => exact (below_size (be_ HB.o))); (case aL => have := LMc18.o; omega); intro v108 w20 ho hb hg hat; rw [← Ny107.o] at ho; have HO109 := q_ (ho); replace HB := q_ (hb); clear HO_3; clear ho hb hg hat))
            go_roundg k1
            case measure => have := HK1.o; omega
            case rel => exact ⟨(y107), (wrap64 (x4_1 + 1)), rs_, H', ⟨by have := HK1.o; omega⟩, ⟨ra_ HO109.o⟩, ⟨be_ HB.o⟩⟩
           ·rw [if_neg c18] at H
            exact absurd H (by simp)
         ·rw [if_neg c12] at H
          exact absurd H (by simp)
        ·rw [if_neg c11] at H
         exact absurd H (by simp)
       ·rw [if_neg c9] at H
        have c9b0 : decide (0 < (x3_1.length : Int)) = false := df_ c9
        have c9b1 : decide (0 < x3_1.length) = false := decide_eq_false (by omega)
        clear c9
        by_cases c21 : x3_1.length < 8796093022208
        ·rw [if_pos c21] at H; have LMc21 := q_ c21; clear c21
         obtain ⟨y110, hy110⟩ : ∃ y_ : List (S103), y_ = (x3_1 ++ [(⟨x4_1, x4_1⟩ : S103)]) := ⟨_, rfl⟩
         replace H : (spec_l1Class.l0 k1 l0 y110 (wrap64 (x4_1 + 1))) = some r := by first | (rw [hy110]; with_reducible exact H) | (have H2_ := (Option.bind_some _ _).symm.trans H; rw [hy110]; with_reducible exact H2_) | (have H2_ := (Option.bind_some _ _).symm.trans H; with_reducible exact H2_) | with_reducible exact H | (rw [hy110]; exact H) | exact H
         have Ny110 := q_ hy110; clear hy110
         have H' := q_ H
         clear H
         have p104 : 0 ≤ (x4_1 : Int) := of_decide_eq_true as_
         have q104 : x4_1 < (l0.length : Int) := of_decide_eq_true as_
         obtain ⟨ad104, e104, hx104_0⟩ := Kd.at_bool HR0.o x4_1 p104 q104
         (try rw [← Nbq7.o] at hx104_0)
         cases e104
         replace hx104_0 := mv_ HB.o hx104_0; replace p104 := eq_true p104; replace q104 := eq_true q104; obtain ⟨Ao22, co22, eo22⟩ := Kd.R_slice HO_3.o; subst eo22
         go_wp2_with (first | ((with_reducible refine gate_builtin (b := .append) (xs := #[.tmp 37, .tmp 41]) rfl ?_); (try (refine gate_guard (by rfl) ?_; dsimp only)); at_builtin; refine Kd.R_append k103 (w0 := w) w.heap.size rfl (.tmp 37) (.tmp 41) 34 103 (.agg #[(.int .i64 0), (.int .i64 0)]) 16 rfl Try.underlying34 info103 rfl (by decide) (by omega) (.slice Ao22 x3_1.length co22) x3_1 (⟨x4_1, x4_1⟩ : S103) [.int .i64 x4_1, .int .i64 x4_1] (fun _ => True) (fun _ => False) rfl rfl ?aP (fun _ hk => hk.elim) ?aF ?aO ?aB ?aS ?aL ?_; (case aP => exact k103_mkM _ _ _ (⟨x4_1, x4_1⟩ : S103)); (case aB => exact (be_ HB.o)); (case aF => exact (fun _ _ => trivial)); (case aO => exact (ra_ HO_3.o)); (case aS => exact (below_size (be_ HB.o))); (case aL => have := LMc21.o; omega); intro v111 w23 ho hb hg hat; rw [← Ny110.o] at ho; have HO112 := q_ (ho); replace HB := q_ (hb); clear HO_3; clear ho hb hg hat))
         go_roundg k1
         case measure => have := HK1.o; omega
         case rel => exact ⟨(y110), (wrap64 (x4_1 + 1)), rs_, H', ⟨by have := HK1.o; omega⟩, ⟨ra_ HO112.o⟩, ⟨be_ HB.o⟩⟩
        ·rw [if_neg c21] at H
         exact absurd H (by simp)
      ·replace c8 := Bool.eq_false_iff.mpr c8; subst c8; rw [if_neg nft_] at H
       have H' := q_ H
       clear H
       have p104 : 0 ≤ (x4_1 : Int) := of_decide_eq_true as_
       have q104 : x4_1 < (l0.length : Int) := of_decide_eq_true as_
       obtain ⟨ad104, e104, hx104_0⟩ := Kd.at_bool HR0.o x4_1 p104 q104
       (try rw [← Nbq7.o] at hx104_0)
       cases e104
       replace hx104_0 := mv_ HB.o hx104_0; replace p104 := eq_true p104; replace q104 := eq_true q104
       go_wp2
       go_roundg k1
       case measure => have := HK1.o; omega
       case rel => exact ⟨(x3_1), (wrap64 (x4_1 + 1)), rs_, H', ⟨by have := HK1.o; omega⟩, ⟨ra_ HO_3.o⟩, ⟨be_ HB.o⟩⟩
     ·rw [if_neg c6] at H
      exact absurd H (by simp)
    ·rw [if_neg c5] at H
     exact absurd H (by simp)
   ·rw [if_neg c4] at H; have c4b0 := df_ c4; clear c4; obtain rfl := Option.some.inj H
    go_wp2
    go_ret
    exact ⟨_, rt_, ra_ HO_3.o, be_ HB.o⟩
end Go.Proofs.Ytijmhelacmjggaa.P
